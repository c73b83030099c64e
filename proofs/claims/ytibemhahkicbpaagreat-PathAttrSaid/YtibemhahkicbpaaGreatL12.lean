/- Lemmas, conditions told -/
import Derived.Test.YtibemhahkicbpaaGreatL10
import Derived.Test.YtibemhahkicbpaaGreatL11
set_option maxRecDepth 99999
set_option maxHeartbeats 0
set_option linter.unusedSimpArgs false
set_option linter.unusedVariables false
namespace Go.Proofs.YtibemhahkicbpaaGreat
open List(getElem?_map getElem?_eq_getElem map_cons map_append mem_cons mem_map map_drop length_drop map_take length_cons drop_drop length_nil)
open Go.RowKit Go.Lib
section
open Tryz
section
variable {w w':World}{A':Nat->Nat->Prop}
theorem Qb8{us:List Value}(h:∀u∈us,u.oneCell'=true):Alike w A' us (us.map .val):=by
 refine⟨by simp,fun j y u hy hu=>?_⟩
 rw[getElem?_map,hy]at hu;obtain rfl:AV.val y=u:=by simpa using hu
 exact PRel.val _ (h y (List.mem_of_getElem? hy))
theorem QhA{base e sz n:Nat}{v:Value}{ys:List Value}{xs:List AV}(h:w'.ownsRow base e sz v n ys)(jh:0<sz)(jX:Alike w' A' ys (QQ xs))(hn:n=xs.length)(hw:∀x∈xs,x.cells.length=sz)
  (hA:∀b o,base<=b->b<w'.heap.size->A' b o):PRel w' A' v (.slc sz xs):=by
 obtain⟨A,c,rfl,hr⟩:=Q1C h;refine Qln (S:=fun b=>base<=b/\b<w'.heap.size) ⟨hr.len,hr.le,hr.max,hr.nil,fun hp=>?_⟩ (fun b o hb=>hA b o hb.1 hb.2) hn hw (fun a ha=>?_) jX
 ·obtain⟨b,o,h1,h2,h3⟩:=hr.at_ hp
  have jE:0<ys.length:=by rw[hr.len];exact Nat.mul_pos hp jh
  have:=h3 0 ys[0] (getElem?_eq_getElem jE)
  exact⟨b,o,h1,⟨h2,World.block_lt_of_cell? w' _ this⟩,h3⟩
 ·rcases h.2 with ⟨h1,_⟩|⟨b,cap,cur,h1,_⟩
  ·cases h1;cases ha
  ·cases h1;cases ha;exact⟨b,0,rfl⟩
end
def Qb7(x:Int×Nat×Nat):Itm:=⟨x.1,x.2.1,x.2.2⟩
def Q4w(b:List UInt8):List Itm:=(Q28 b).map Qb7
theorem QaV(l:List (Int×Nat×Nat)):QQ (QP (l.map Qb7))=(Q12 l).map .val:=by
 induction l with
 |nil=>rfl
 |cons x r ih=>simp only[QP,map_cons,QQ,List.flatMap_cons,Q12,map_append]at ih ⊢;rw[ih];rfl
theorem Qme(b:List UInt8)(hb:b.length<=100000000):BCall prog 98 [.slc 1 (Q2 b)] [] (.slc 3 (QP (Q4w b))) []:=by
 refine BCall.hand (enters_of func98 (by kernel_rfl) rfl) fun w g vs M hL=>?_
 obtain⟨v1,vs1,rfl,h1,hL⟩:=Q13 hL;obtain rfl:=Q2A hL;obtain⟨A,c,rfl,hr⟩:=Qef h1 M;refine(Qcx _ A _ c b w hr (by omega)).mono fun e w' ⟨v,h,⟨n',ho⟩,zQ⟩=>⟨v,h,zQ,?_⟩
 have hn:n'=(QP (Q4w b)).length:=by
  have:=ho.1
  rw[Q2j]at this;rw[Q3m,Q4w,List.length_map];omega
 refine QhA (A':=(g.imm w w').A) ho (by decide) ?_ hn (fun x hx=>?_) (fun b o h1 h2=>.inr ⟨h1,h2⟩)
 ·rw[Q4w,QaV]
  refine Qb8 fun u hu=>?_
  obtain⟨x,_,hx⟩:=List.mem_flatMap.1 hu;simp only[mem_cons,List.not_mem_nil,or_false]at hx;rcases hx with rfl|rfl|rfl<;>rfl
 ·obtain⟨y,_,rfl⟩:=mem_map.1 hx
  rfl
def Q4B(kind:Int)(b:List UInt8):List Itm:=if kind=0 then Q4w b else if kind=1 then Q1x true 0 b else if kind=2 then Q1x false 0 b else []
def Qpe(f8:List AV->List AV)(fw:Bool->List AV->List AV):Nat->List AV->List Ob->Option (AV×List Ob):=fun f args _=>match f,args with
 |98,[.slc 1 xs]=>some (.slc 3 (f8 xs),[])
 |99,[.slc 1 xs,.val (.bool b)]=>some (.slc 3 (fw b xs),[])
 |_,_=>none
def f8A(xs:List AV):List AV:=QP (Q4w (xs.map Q35))
def fwA(big:Bool)(xs:List AV):List AV:=QP (Q1x big 0 (xs.map Q35))
theorem Qez(kind:Int)(b:List UInt8)(hb:b.length<=100000000):BCall prog 48 [.val (.int .i64 kind),.slc 1 (Q2 b)] [] (.slc 3 (QP (Q4B kind b))) []:=by
 have pC:f8A (Q2 b)=QP (Q4w b):=by rw[f8A,Q3u]
 have xR:∀big,fwA big (Q2 b)=QP (Q1x big 0 b):=fun big=>by rw[fwA,Q3u]
 have c8:BCall prog 98 [.slc 1 (Q2 b)] [] (.slc 3 (f8A (Q2 b))) []:=by rw[pC];exact Qme b hb
 have cw:∀big,BCall prog 99 [.slc 1 (Q2 b),.val (.bool big)] [] (.slc 3 (fwA big (Q2 b))) []:=fun big=>by rw[xR];exact Qla big b (by omega)
 refine fnN (Qpe f8A fwA) func48 rfl fun _ _=>?_
 with_reducible refine cv3 f8A fwA (Q2 b) ?_
 refine⟨fun h=>⟨c8,.pure rfl (.inl ?_)⟩,fun h=>⟨fun h1=>⟨cw _,.pure rfl (.inl ?_)⟩,fun h1=>⟨fun h2=>⟨cw _,.pure rfl (.inl ?_)⟩,fun h2=>.pure rfl (.inr (.inl ⟨rfl,3,?_⟩))⟩⟩⟩
 ·have h:kind=0:=by simpa[std]using h
  rw[Q4B,if_pos h,pC]
 ·have h:¬kind=0:=by simpa[std]using h
  have yC:kind=1:=by simpa[std]using h1
  have h1:std.eqI kind 1=true:=h1;show AV.slc 3 (fwA (std.eqI kind 1) (Q2 b))=_;rw[Q4B,if_neg h,if_pos yC,h1,xR]
 ·have h:¬kind=0:=by simpa[std]using h
  have yC:¬kind=1:=by simpa[std]using h1
  have h2:kind=2:=by simpa[std]using h2
  have h1:std.eqI kind 1=false:=h1;show AV.slc 3 (fwA (std.eqI kind 1) (Q2 b))=_;rw[Q4B,if_neg h,if_neg yC,if_pos h2,h1,xR]
 ·have h:¬kind=0:=by simpa[std]using h
  have h1:¬kind=1:=by simpa[std]using h1
  have h2:¬kind=2:=by simpa[std]using h2
  rw[Q4B,if_neg h,if_neg h1,if_neg h2];rfl
structure Txt where
 kind:Int
 bom:Int
 r:List Int
 off:List Int
 deriving Inhabited
def Txt.cs(t:Txt):List AV:=[.val (.int .i64 t.kind),.val (.int .i64 t.bom),.slc 1 (Q0 t.r),.slc 1 (Q9 t.off)]
def Q2V(b:List UInt8):List Itm:=Q4B (QX b).1 (b.drop (QX b).2.toNat)
def Qb(b:List UInt8):Txt:=⟨(QX b).1,(QX b).2,(Q2V b).map Itm.r,(Q2V b).map (fun x=>x.off+(QX b).2)++[(b.length:Int)]⟩
theorem Q4h(b:List UInt8):0<=(QX b).2/\(QX b).2<=b.length:=by
 have key:∀(x:List UInt8×Int×Int),x∈signsL->x.1.isPrefixOf b=true->0<=x.2.2/\x.2.2<=b.length:=by
  intro x hx hp;have:=(List.isPrefixOf_iff_prefix.1 hp).length_le
  simp only[signsL,mem_cons,List.not_mem_nil,or_false]at hx;rcases hx with rfl|rfl|rfl|rfl|rfl<;>simp at this ⊢<;>omega
 unfold QX kR;split
 ·rename_i x hx
  have h1:=List.find?_some hx;have h2:=List.mem_of_find?_eq_some hx;exact key x (by simpa using h2) h1
 ·simp only;omega
def csD(k bom:Int)(pc:Int->List AV->List AV):Nat->List AV->List Ob->Option (AV×List Ob):=fun f args _=>match f,args with
 |84,_=>some (.tup [.val (.int .i64 k),.val (.int .i64 bom)],[])
 |48,[.val (.int .i64 k),.slc 1 xs]=>some (.slc 3 (pc k xs),[])
 |_,_=>none
def pcA(k:Int)(xs:List AV):List AV:=QP (Q4B k (xs.map Q35))
theorem Qll(b:List UInt8)(hb:b.length<=1000000)(jp:(Q2V b).length<=1000000)(qQ:∀x∈Q2V b,0<=x.off/\x.off<=1000000) :
  BCall prog 40 [.slc 1 (Q2 b)] [] (.agg (Qb b).cs) []:=by
 have yV:=Q4h b;have cK:=Qmc b;obtain⟨k,hk⟩:=exq ((QX b).1);obtain⟨bom,vt⟩:=exq ((QX b).2);obtain⟨ps,yW⟩:=exq (Q2V b);have hT:Qb b=⟨k,bom,ps.map Itm.r,ps.map (fun x=>x.off+bom)++[(b.length:Int)]⟩:=by rw[hk,vt,yW];rfl
 have nw:ps=Q4B k (b.drop bom.toNat):=by rw[hk,vt,yW];rfl
 rw[hT];rw[<-yW]at jp qQ;rw[<-hk,<-vt]at cK;rw[<-vt]at yV;clear hT hk vt yW
 have jS:std.cut (Q2 b) bom (std.len (Q2 b))=Q2 (b.drop bom.toNat):=by
  show((Q2 b).drop bom.toNat).take ((Q2 b).length-bom:Int).toNat=_
  rw[Q2,Q2,map_drop,List.take_of_length_le (by simp;omega)]
 have zS:pcA k (std.cut (Q2 b) bom (std.len (Q2 b)))=QP ps:=by rw[jS,pcA,Q3u,nw]
 have cP:BCall prog 48 [.val (.int .i64 k),.slc 1 (std.cut (Q2 b) bom (std.len (Q2 b)))] [] (.slc 3 (pcA k (std.cut (Q2 b) bom (std.len (Q2 b))))) []:=by
  rw[zS,jS,nw];exact Qez k _ (by rw[length_drop];omega)
 obtain⟨nb,vu⟩:=QE b;obtain⟨n,hn⟩:=QE ps;have pq:bom<=nb:=by rw[vu.eq];exact yV.2
 have pP:=yV.1;clear yV;refine fnO false (csD k bom pcA) (fun id=>match id with|3=>.of [0,1,2,3,4,5,8,6,7]|_=>.nil) func40 rfl fun _ _=>?_
 with_reducible refine cv2 pcA (Q2 b) ?_
 have enb:=vu.eq;have en:=hn.eq;have jW:=Q11 b;refine⟨cK,?_,cP,?_⟩
 ·simp only[std,jW];omega
 have qB:std.len (pcA k (std.cut (Q2 b) bom (std.len (Q2 b))))=n:=by rw[zS];simp only[std,Q3m];omega
 refine Q1h (csD k bom pcA) (Int) (fun i=>⟨[(0,.slc 1 (Q2 b)),(2,.box 0 0),(3,.box 1 0),(20,.slc 3 (QP ps)),(21,.val (.int .i64 n)),(22,.val (.int .i64 i))],[.box [.val (.int .i64 0),.val (.int .i64 0),.val (.slice none 0 0),.val (.slice none 0 0)],.box [.val (.int .i64 k),.val (.int .i64 bom),.row 2 0,.row 3 0],.row 21 1 false 0 (Q0 ((ps.take i.toNat).map Itm.r)),.row 3 1 false 0 (Q9 ((ps.take i.toNat).map fun x=>x.off+bom))]⟩) (fun i=>0<=i/\i<=n) (fun i=>(n-i).toNat) 0 ?_ ?_ ?_
 ·omega
 ·refine⟨[some 0,some 1,none,none],_,rfl,?_⟩
  simp only[Int.toNat_zero,List.take_zero,List.map_nil]
  repeat first
   |exact trivial
   |refine⟨gA zS,?_⟩
   |refine⟨gI qB,?_⟩
   |refine⟨rfl,?_⟩
 ·rintro i ⟨jK,jM⟩
  have j1:=Q3m ps;rcases Int.lt_or_eq_of_le jM with jA|j6
  ·have jV:(QP ps)[i.toNat]?.getD .dead=(ps[i.toNat]?.getD ⟨0,0,0⟩).av:=QdT Itm.av jK (by omega) ⟨0,0,0⟩
   have vB:i.toNat<ps.length:=by omega
   have hx:=qQ (ps[i.toNat]?.getD ⟨0,0,0⟩) (by simp[vB])
   have ht:ps.take (i+1).toNat=ps.take i.toNat++[ps[i.toNat]?.getD ⟨0,0,0⟩]:=by
    rw[show(i+1).toNat=i.toNat+1 by omega,List.take_add_one]
    simp[vB]
   have yp:Q0 ((ps.take (i+1).toNat).map Itm.r)=Q0 ((ps.take i.toNat).map Itm.r)++[.val (.int .i32 (ps[i.toNat]?.getD ⟨0,0,0⟩).r)]:=by
    rw[ht,map_append,Q95];rfl
   have vF:Q9 ((ps.take (i+1).toNat).map fun x=>x.off+bom)=Q9 ((ps.take i.toNat).map fun x=>x.off+bom)++[.val (.int .i64 ((ps[i.toNat]?.getD ⟨0,0,0⟩).off+bom))]:=by
    rw[ht,map_append,Q4T];rfl
   have yi:(Q0 ((ps.take i.toNat).map Itm.r)).length<=1000000:=by simp[Q0];omega
   have z6:(Q9 ((ps.take i.toNat).map fun x=>x.off+bom)).length<=1000000:=by simp[Q9];omega
   obtain⟨x,hxE⟩:=exq (ps[i.toNat]?.getD ⟨0,0,0⟩);rw[<-hxE]at jV hx yp vF;obtain⟨R,hR⟩:=exq (Q0 ((ps.take i.toNat).map Itm.r));obtain⟨O,hO⟩:=exq (Q9 ((ps.take i.toNat).map fun x=>x.off+bom))
   rw[<-hR]at yp yi ⊢;rw[<-hO]at vF z6 ⊢;clear en enb ht;with_reducible refine cv3 pcA (Q2 b) (QP ps) ?_
   have en:=hn.eq;have enb:=vu.eq
   repeat' first
    |(with_reducible refine And.intro (fun hx=>absurd hx (by first|(try simp[std,S1,jV,Itm.av,j1,jA,jK])<;>omega|omega)) (fun _=>?_))
    |(with_reducible refine And.intro (fun _=>?_) (fun hx=>absurd hx (by first|(try simp[std,S1,jV,Itm.av,j1,jA,jK])<;>omega|omega)))
    |(with_reducible refine And.intro (by first|(try simp[std,S1,jV,Itm.av,j1,jA,jK])<;>omega|omega) ?_)
    |(with_reducible refine zA ?_ ?_)
    |(with_reducible intro hb)
   exact⟨i+1,⟨by omega,by omega⟩,by omega,[some 0,some 1,some 2,some 3],_,rfl,by simp[-map_take,Qe,lk,std,jV,j1,Itm.av,AV.cells,intOf,yp,vF]⟩
  ·have ht:ps.take i.toNat=ps:=List.take_of_length_le (by omega)
   rw[ht];have z6:(Q9 (ps.map fun x=>x.off+bom)).length<=1000000:=by simp[Q9];omega
   have hf:Q9 (ps.map (fun x=>x.off+bom)++[(b.length:Int)])=Q9 (ps.map fun x=>x.off+bom)++[.val (.int .i64 nb)]:=by
    rw[Q4T,vu.eq];rfl
   have xS:std.len (Q2 b)=nb:=by rw[enb];simp only[std,jW]
   obtain⟨R,hR⟩:=exq (Q0 (ps.map Itm.r));obtain⟨O,hO⟩:=exq (Q9 (ps.map fun x=>x.off+bom))
   rw[<-hO]at z6 hf
   have hcs:(Txt.mk k bom (ps.map Itm.r) (ps.map (fun x=>x.off+bom)++[(b.length:Int)])).cs=[.val (.int .i64 k),.val (.int .i64 bom),.slc 1 R,.slc 1 (O++[.val (.int .i64 nb)])]:=by
    rw[Txt.cs,hf,hR]
   rw[hcs,<-hR,<-hO];clear en enb ht hcs;with_reducible refine cv3 pcA (Q2 b) (QP ps) ?_
   with_reducible repeat' first|refine aU j6 ?_|refine zA ?_ ?_|intro hb
   rw[if_pos trivial];with_reducible refine cv3 pcA (Q2 b) (QP ps) ?_
   refine⟨?_,.pure rfl ?_⟩
   ·simp[std];omega
   ·refine⟨.inl rfl,.inl rfl,.inl rfl,.inl ?_,trivial⟩
    show AV.slc 1 (std.app O [.val (.int .i64 (std.len (Q2 b)))])=_;rw[xS];rfl
theorem Qq2(t:Txt)(a b:Int)(h0:0<=a)(h1:a<=b)(h2:b<=t.r.length):BCall prog 103 [.agg t.cs,.val (.int .i64 a),.val (.int .i64 b)] [] (.val (.bool true)) []:=by
 obtain⟨n,hn⟩:=QE t.r;have pD:b<=n:=by rw[hn.eq];exact h2
 clear h2;unfold Txt.cs;obtain⟨k,hk⟩:=exq t.kind;obtain⟨m,hm⟩:=exq t.bom;obtain⟨R,hR⟩:=exq (Q0 t.r);obtain⟨O,hO⟩:=exq (Q9 t.off);have hRl:R.length=t.r.length:=by rw[hR,Qx]
 rw[<-hk,<-hm,<-hR,<-hO];refine fnN (cs0) func103 rfl fun _ _=>?_
 with_reducible refine cv0 ?_
 have en:=hn.eq;have pF:((R.length:Nat):Int)=n:=by omega
 with_reducible repeat' first|refine aU (zA pF <| zA h0 <| zA h1 pD) ?_|refine zA ?_ ?_|intro hb
 refine .pure rfl (.inl ?_);have:std.leI b (std.len R)=true:=by simp only[std,pF];exact decide_eq_true pD
 show AV.val (.bool (std.leI b (std.len R)))=_;rw[this]
def Qp9:Nat->List AV->List Ob->Option (AV×List Ob):=fun f args _=>match f,args with
 |103,_=>some (.val (.bool true),[])
 |214,[.slc 1 xs]=>some (.slc 1 xs,[])
 |_,_=>none
structure TxtOk (t:Txt) (b:List UInt8):Prop where
 len:t.off.length=t.r.length+1
 range:∀x∈t.off,0<=x/\x<=b.length
 last:t.off[t.r.length]?.getD 0=b.length
 mono:∀i j:Nat,i<=j->j<=t.r.length->t.off[i]?.getD 0<=t.off[j]?.getD 0
def QU(t:Txt)(b:List UInt8)(i j:Int):List UInt8:=(b.drop (t.off[i.toNat]?.getD 0).toNat).take ((t.off[j.toNat]?.getD 0)-(t.off[i.toNat]?.getD 0)).toNat
theorem QnP(t:Txt)(bs:List UInt8)(k7:bs.length<=1000000)(ok:TxtOk t bs)(qd:t.r.length<=1000000)(i j:Int)(h0:0<=i)(h1:i<=j)(h2:j<=t.r.length) :
  BCall prog 179 [.agg t.cs,.slc 1 (Q2 bs),.val (.int .i64 i),.val (.int .i64 j)] [] (.slc 1 (Q2 (QU t bs i j))) []:=by
 have cI:=Qq2 t i j h0 h1 h2;obtain⟨lo,zM⟩:=exq (t.off[i.toNat]?.getD 0);obtain⟨hi,yo⟩:=exq (t.off[j.toNat]?.getD 0);have jR:=ok.len;have olen:=Q2w t.off;have alo:=Q2T (l:=t.off) (i:=i) h0 (by omega)
 have ahi:=Q2T (l:=t.off) (i:=j) (by omega) (by omega)
 have ala:=Q2T (l:=t.off) (i:=(t.r.length:Int)) (by omega) (by omega)
 rw[Int.toNat_natCast,ok.last]at ala;rw[<-zM]at alo;rw[<-yo]at ahi;have jJ:lo<=hi:=by rw[zM,yo];exact ok.mono _ _ (by omega) (by omega)
 have hlo0:0<=lo:=by
  have h3:i.toNat<t.off.length:=by omega
  have:=ok.range (t.off[i.toNat]'h3) (List.getElem_mem h3)
  rw[zM,getElem?_eq_getElem h3];exact this.1
 obtain⟨nb,vu⟩:=QE bs
 have hhin:hi<=nb:=by
  have h3:j.toNat<t.off.length:=by omega
  have:=ok.range (t.off[j.toNat]'h3) (List.getElem_mem h3)
  rw[yo,vu.eq,getElem?_eq_getElem h3];exact this.2
 have jS:std.cut (Q2 bs) lo hi=Q2 (QU t bs i j):=by
  show((Q2 bs).drop lo.toNat).take (hi-lo).toNat=_
  rw[QU,<-zM,<-yo,Q2,Q2,map_take,map_drop]
 obtain⟨nr,hnr⟩:=QE t.r;have k8:j<=nr:=by rw[hnr.eq];exact h2
 have cC:BCall prog 214 [.slc 1 (std.cut (Q2 bs) lo hi)] [] (.slc 1 (std.cut (Q2 bs) lo hi)) []:=QjT _ (by rw[jS,Q11,QU,List.length_take,length_drop];omega)
 rw[<-jS];clear jS ok zM yo h2;unfold Txt.cs at cI ⊢;obtain⟨k,hk⟩:=exq t.kind;obtain⟨m,hm⟩:=exq t.bom;obtain⟨R,hR⟩:=exq (Q0 t.r);obtain⟨O,hO⟩:=exq (Q9 t.off);rw[<-hk,<-hm,<-hR,<-hO]at cI ⊢;rw[<-hO]at alo ahi ala olen;refine fnN (Qp9) func179 rfl fun _ _=>?_
 with_reducible refine cv1 (Q2 bs) ?_
 have enb:=vu.eq;have enr:=hnr.eq;have jW:=Q11 bs;have hON:((O.length:Nat):Int)=nr+1:=by omega
 have hON2:((O.length:Nat):Int)-1=nr:=by omega
 have ala:O[nr.toNat]?.getD .dead=.val (.int .i64 nb):=by rw[show nr.toNat=t.r.length by omega,enb];exact ala
 have pq:(((Q2 bs).length:Nat):Int)=nb:=by omega
 have n7:std.int (std.nth (std.cel (std.at_ O i)) 0)=lo:=by simp[std,alo,AV.cells,intOf]
 have hh':std.int (std.nth (std.cel (std.at_ O j)) 0)=hi:=by simp[std,ahi,AV.cells,intOf]
 with_reducible repeat' first|refine aU (zA cI <| zA alo <| zA ahi <| zA ala <| zA hON <| zA hON2 <| zA pq <| zA hlo0 <| zA jJ hhin) ?_|refine zA ?_ ?_|intro hb
 ·show BCall _ _ [.slc 1 (std.cut (Q2 bs) (std.int (std.nth (std.cel (std.at_ O i)) 0)) (std.int (std.nth (std.cel (std.at_ O j)) 0)))] [] (.slc 1 (std.cut (Q2 bs) (std.int (std.nth (std.cel (std.at_ O i)) 0)) (std.int (std.nth (std.cel (std.at_ O j)) 0)))) []
  rw[n7,hh'];exact cC
 ·refine .pure rfl (.inl ?_)
  show AV.slc 1 (std.cut (Q2 bs) (std.int (std.nth (std.cel (std.at_ O i)) 0)) (std.int (std.nth (std.cel (std.at_ O j)) 0)))=_;rw[n7,hh']
theorem Qnb(x y:List Int)(hx:x.length<=1000000000)(hy:y.length<=1000000000):BCall prog 178 [.slc 1 (Q0 x),.slc 1 (Q0 y)] [] (.val (.bool (decide (x=y)))) []:=by
 obtain⟨n,hn⟩:=QE x;obtain⟨m,hm⟩:=QE y;obtain⟨e,he⟩:=exq (decide (x=y));rw[<-he];have jt:=Qx x;have hyl:=Qx y;refine fnN (cs0) func178 rfl fun _ _=>?_
 with_reducible refine cv2 (Q0 x) (Q0 y) ?_
 have en:=hn.eq;have em:=hm.eq;have jB:(((Q0 x).length:Nat):Int)=n:=by omega
 have kA:(((Q0 y).length:Nat):Int)=m:=by omega
 refine⟨fun h=>?_,fun h=>?_⟩
 ·have h:¬n=m:=by simpa[std,jB,kA]using h
  refine .pure rfl (.inl ?_);rw[he,decide_eq_false (fun h2=>h (by rw[en,em,h2]))]
 ·have h:n=m:=by simpa[std,jB,kA]using h
  refine Q1h (cs0) (Int) (fun i=>⟨[(0,.slc 1 (Q0 x)),(1,.slc 1 (Q0 y)),(12,.val (.int .i64 n)),(13,.val (.int .i64 i))],[]⟩) (fun i=>0<=i/\i<=n/\∀j:Nat,(j:Int)<i->x[j]?.getD 0=y[j]?.getD 0) (fun i=>(n-i).toNat) 0 ?_ ?_ ?_
  ·exact⟨by omega,by omega,fun j hj=>by omega⟩
  ·exact⟨[],_,rfl,by simp[Qe,lk,std,jB]⟩
  ·rintro i ⟨jK,jM,hi⟩
   have cr:∀j:Nat,j<i.toNat->x[j]?.getD 0=y[j]?.getD 0:=fun j hj=>hi j (by omega)
   clear hi;rcases Int.lt_or_eq_of_le jM with jA|j6
   ·have ax:=QJ (l:=x) jK (by omega)
    have ay:=QJ (l:=y) jK (by omega)
    have hltm:i<m:=by omega
    clear en em h jB kA;with_reducible refine cv2 (Q0 x) (Q0 y) ?_
    have en:=hn.eq;have em:=hm.eq;have jB:(((Q0 x).length:Nat):Int)=n:=by omega
    have kA:(((Q0 y).length:Nat):Int)=m:=by omega
    with_reducible repeat' first|refine aU (zA ax <| zA ay <| zA jB <| zA kA <| zA jA <| zA hltm jK) ?_|refine zA ?_ ?_|intro hb
    ·have jQ:¬x[i.toNat]?.getD 0=y[i.toNat]?.getD 0:=by simpa[std,ax,ay,AV.cells,intOf]using hb
     with_reducible refine cv2 (Q0 x) (Q0 y) ?_
     refine .pure rfl (.inl ?_);rw[he,decide_eq_false (fun h2=>jQ (by rw[h2]))]
    ·have j6:x[i.toNat]?.getD 0=y[i.toNat]?.getD 0:=by simpa[std,ax,ay,AV.cells,intOf]using hb
     refine⟨i+1,⟨by omega,by omega,fun j hj=>?_⟩,by omega,[],_,rfl,by simp[Qe,lk,std]⟩
     have hj:(j:Int)<i+1:=hj;by_cases ql:j<i.toNat
     ·exact cr j ql
     ·obtain rfl:j=i.toNat:=by omega
      exact j6
   ·have hxy:x=y:=by
     refine List.ext_getElem (by omega) fun j h1 h2=>?_
     have:=cr j (by omega)
     rw[getElem?_eq_getElem h1,getElem?_eq_getElem h2]at this;exact this
    clear en em h jB kA;with_reducible refine cv2 (Q0 x) (Q0 y) ?_
    with_reducible repeat' first|refine aU j6 ?_|refine zA ?_ ?_|intro hb
    rw[if_pos trivial];with_reducible refine cv2 (Q0 x) (Q0 y) ?_
    refine .pure rfl (.inl ?_);rw[he,decide_eq_true hxy]
end
def QaT:Int->List Itm->Int->Prop
 |a,[],e=>a=e
 |a,x::r,e=>x.off=a/\1<=x.n/\QaT (a+x.n) r e
theorem Qg6(big:Bool):∀(n:Nat)(l:List UInt8)(a:Int),l.length<=n->QaT a (Q1x big a l) (a+l.length):=by
 intro n;induction n with
 |zero =>
  intro l a h;have:l=[]:=List.eq_nil_of_length_eq_zero (by omega)
  subst this;rw[Q1x,dif_pos rfl];show a=_;simp
 |succ n ih =>
  intro l a h;by_cases hl:l=[]
  ·subst hl
   rw[Q1x,dif_pos rfl];show a=_;simp
  ·have hs:=Q6Z big l hl
   rw[Q1x,dif_neg hl];refine⟨rfl,hs.1,?_⟩;have:=ih (l.drop (Q1j big l).2.toNat) (a+(Q1j big l).2) (by rw[length_drop];omega)
   rw[length_drop]at this;rw[show a+(Q1j big l).2+((l.length-(Q1j big l).2.toNat:Nat):Int)=a+l.length by omega]at this
   exact this
theorem Qls(l:List UInt8)(h:l≠[]):1<=(Qo l).2/\(Qo l).2<=l.length:=by
 have hl:0<l.length:=List.length_pos_iff.2 h;unfold Qo;split
 ·exact⟨Nat.le_refl _,hl⟩
 ·exact⟨decodeL_width _,decodeL_le _ h⟩
theorem QeM:∀(n off:Nat)(l:List UInt8),l.length<=n->QaT off ((Q1u n off l).map Qb7) (off+l.length:Int):=by
 intro n;induction n with
 |zero =>
  intro off l h;have:l=[]:=List.eq_nil_of_length_eq_zero (by omega)
  subst this;show(off:Int)=_
  simp
 |succ n ih =>
  intro off l h;cases l with
  |nil=>show(off:Int)=_;simp
  |cons b t =>
   have hs:=Qls (b::t) (by simp)
   refine⟨rfl,by show(1:Int)<=((Qo (b::t)).2:Int);omega,?_⟩
   have:=ih (off+(Qo (b::t)).2) ((b::t).drop (Qo (b::t)).2) (by rw[length_drop];omega)
   rw[length_drop]at this;rw[show((off+(Qo (b::t)).2:Nat):Int)+(((b::t).length-(Qo (b::t)).2:Nat):Int)=off+(b::t).length by omega,show((off+(Qo (b::t)).2:Nat):Int)=off+(Qo (b::t)).2 by omega]at this
   exact this
theorem Qcw:∀(ps:List Itm)(a e:Int),QaT a ps e->(ps.length:Int)<=e-a/\(∀x∈ps.map Itm.off++[e],a<=x/\x<=e)/\List.Pairwise (·<=·) (ps.map Itm.off++[e])/\(ps.map Itm.off++[e])[0]?=some a
 | [],a,e,h=>by
  have h:a=e:=h;subst h;simp
 |x::r,a,e,h=>by
  obtain⟨h1,h2,h3⟩:=h;obtain⟨h4,h5,h6,h7⟩:=Qcw r _ e h3;refine⟨by simp only[length_cons];omega,fun y hy=>?_,?_,by simp[h1]⟩
  ·simp only[map_cons,List.cons_append,mem_cons]at hy
   rcases hy with rfl|hy
   ·have:=h5 e (by simp);omega
   ·have:=h5 y hy;omega
  ·simp only[map_cons,List.cons_append]
   exact List.pairwise_cons.2 ⟨fun y hy=>by have:=h5 y hy;omega,h6⟩
theorem Q54(b:List UInt8):(QX b).1=0\/(QX b).1=1\/(QX b).1=2:=by
 have key:∀(x:List UInt8×Int×Int),x∈signsL->x.2.1=0\/x.2.1=1\/x.2.1=2:=by decide
 unfold QX kR;split
 ·rename_i x hx
  exact key x (by simpa using List.mem_of_find?_eq_some hx)
 ·exact .inl rfl
theorem Qga(b:List UInt8):QaT 0 (Q2V b) (b.length-(QX b).2):=by
 have hb:=Q4h b;have hl:(((b.drop (QX b).2.toNat).length:Nat):Int)=b.length-(QX b).2:=by rw[length_drop];omega
 have h8:=QeM _ 0 (b.drop (QX b).2.toNat) (Nat.le_refl _);have hw:=fun big=>Qg6 big _ (b.drop (QX b).2.toNat) 0 (Nat.le_refl _)
 rw[hl,Int.zero_add]at hw;rw[hl,show((0:Nat):Int)=0 from rfl,Int.zero_add]at h8;rw[Q2V];rcases Q54 b with h|h|h
 ·rw[Q4B,if_pos h];exact h8
 ·rw[Q4B,if_neg (by omega),if_pos h];exact hw true
 ·rw[Q4B,if_neg (by omega),if_neg (by omega),if_pos h];exact hw false
theorem Qe7(b:List UInt8):(Qb b).off=((Q2V b).map Itm.off++[(b.length:Int)-(QX b).2]).map (· + (QX b).2):=by
 show(Q2V b).map _++[(b.length:Int)]=_
 simp
theorem Q3N(b:List UInt8):TxtOk (Qb b) b/\(Qb b).off[0]?.getD 0=(QX b).2/\(Qb b).r.length<=b.length/\(Q2V b).length<=b.length/\∀x∈Q2V b,0<=x.off/\x.off<=b.length:=by
 have hb:=Q4h b;obtain⟨h1,h2,h3,h4⟩:=Qcw _ _ _ (Qga b);have hr:(Qb b).r.length=(Q2V b).length:=by show((Q2V b).map Itm.r).length=_;simp
 have ho:=Qe7 b;generalize hL:(Q2V b).map Itm.off++[(b.length:Int)-(QX b).2]=L at h2 h3 h4 ho;have q4:L.length=(Q2V b).length+1:=by rw[<-hL];simp
 have jj:L[(Q2V b).length]?=some ((b.length:Int)-(QX b).2):=by rw[<-hL,List.getElem?_append_right (by simp)];simp
 refine⟨⟨by rw[ho,hr,List.length_map,q4],fun x hx=>?_,?_,fun i j pV hj=>?_⟩,?_,by omega,by omega,fun x hx=>?_⟩
 ·rw[ho]at hx
  obtain⟨y,hy,rfl⟩:=mem_map.1 hx;have:=h2 y hy;omega
 ·rw[ho,hr,getElem?_map,jj]
  show(b.length:Int)-(QX b).2+(QX b).2=_
  omega
 ·have qi:i<L.length:=by omega
  have yB:j<L.length:=by omega
  rw[ho,getElem?_map,getElem?_map,getElem?_eq_getElem qi,getElem?_eq_getElem yB];show L[i]+_<=L[j]+_;rcases Nat.lt_or_eq_of_le pV with h|h
  ·have:=List.pairwise_iff_getElem.1 h3 i j qi yB h
   omega
  ·subst h;exact Int.le_refl _
 ·rw[ho,getElem?_map,h4]
  show(0:Int)+_=_
  omega
 ·have:=h2 x.off (by rw[<-hL];exact List.mem_append_left _ (mem_map.2 ⟨x,hx,rfl⟩))
  omega
section
open Tryz
theorem QgS(big:Bool)(x y:UInt8):BCall prog 107 [.slc 1 (Q2 [x,y]),.val (.bool big)] [] (.val (.int .i64 (Q1e big x y))) []:=by
 have e:Q2 [x,y]=[.val (.int .u8 (x.toNat:Int)),.val (.int .u8 (y.toNat:Int))]:=rfl;rw[e];have hx:=x.toNat_lt;have hy:=y.toNat_lt;obtain⟨m,hm⟩:=exq ((x.toNat:Int):Int);obtain⟨n,hn⟩:=exq ((y.toNat:Int):Int);have m0:0<=m/\m<256:=by omega
 have n0:0<=n/\n<256:=by omega
 obtain⟨U,hU⟩:=exq (Q1e big x y);have v6:U=if big=true then m * 256+n else n * 256+m:=by rw[hU,hm,hn];rfl
 rw[<-hU,<-hm,<-hn];clear hU hx hy hm hn e;have bm:(-9223372036854775808:Int)<=m/\m<=(9223372036854775807:Int):=by omega
 have bn:(-9223372036854775808:Int)<=n/\n<=(9223372036854775807:Int):=by omega
 have wm:IntKind.wrap .i64 m=m:=Q4d .i64 m bm;have wn:IntKind.wrap .i64 n=n:=Q4d .i64 n bn;cases big
 ·have hU3:U=256 * n+m:=by rw[v6,if_neg (by decide)];omega
  clear v6;refine fnN (cs0) func107 rfl fun _ _=>?_
  with_reducible refine cv0 ?_
  with_reducible repeat' first|refine aU (zA wm wn) ?_|refine zA ?_ ?_|intro hb
  all_goals exact .pure rfl (.inl (by rw[hU3];simp[std,AV.cells,intOf,wm,wn]))
 ·have hU3:U=256 * m+n:=by rw[v6,if_pos rfl];omega
  clear v6;refine fnN (cs0) func107 rfl fun _ _=>?_
  with_reducible refine cv0 ?_
  with_reducible repeat' first|refine aU (zA wm wn) ?_|refine zA ?_ ?_|intro hb
  all_goals exact .pure rfl (.inl (by rw[hU3];simp[std,AV.cells,intOf,wm,wn]))
def isU(u lo hi:Int):Bool:=decide (lo<=u)&&decide (u<=hi)
theorem QpD(u lo hi:Int):BCall prog 108 [.val (.int .i64 u),.val (.int .i64 lo),.val (.int .i64 hi)] [] (.val (.bool (isU u lo hi))) []:=by
 obtain⟨r,hr⟩:=exq (isU u lo hi);rw[<-hr];rw[isU]at hr;by_cases h1:lo<=u
 ·refine fnN (cs0) func108 rfl fun _ _=>?_
  with_reducible refine cv0 ?_
  with_reducible repeat' first|refine aU h1 ?_|refine zA ?_ ?_|intro hb
  all_goals exact .pure rfl (.inl (by rw[hr];simp[std,h1]))
 ·refine fnN (cs0) func108 rfl fun _ _=>?_
  with_reducible refine cv0 ?_
  with_reducible repeat' first|refine aU h1 ?_|refine zA ?_ ?_|intro hb
  all_goals exact .pure rfl (.inl (by rw[hr];simp[std,h1]))
theorem QmD{b:List UInt8}{a:Int}{x y:UInt8}{r:List UInt8}(h0:0<=a)(h:b.drop a.toNat=x::y::r):std.cut (Q2 b) a (a+2)=Q2 [x,y]:=by
 show((Q2 b).drop a.toNat).take (a+2-a).toNat=_
 rw[show(a+2-a).toNat=2 by omega,Q2,<-map_drop,h];rfl
theorem Ql5{b:List UInt8}{a:Int}{x y x2 y2:UInt8}{r:List UInt8}(h0:0<=a)(h:b.drop a.toNat=x::y::x2::y2::r):std.cut (Q2 b) (a+2) (a+4)=Q2 [x2,y2]:=by
 show((Q2 b).drop (a+2).toNat).take (a+4-(a+2)).toNat=_
 rw[show(a+4-(a+2)).toNat=2 by omega,show(a+2).toNat=a.toNat+2 by omega,Q2,<-map_drop,<-drop_drop,h];rfl
def Qbh(u v:Int)(I:Int->Int->Int->Bool):Nat->List AV->List Ob->Option (AV×List Ob):=fun f args _=>match f,args with
 |1000030,_=>some (.val (.int .i64 u),[])
 |1000054,_=>some (.val (.int .i64 v),[])
 |108,[.val (.int .i64 u),.val (.int .i64 lo),.val (.int .i64 hi)]=>some (.val (.bool (I u lo hi)),[])
 |_,_=>none
def uAt(big:Bool)(b:List UInt8)(k:Nat):Int:=Q1e big (b[k]?.getD 0) (b[k+1]?.getD 0)
theorem QcP{big:Bool}{b:List UInt8}{k:Nat}{x y:UInt8}{r:List UInt8}(h:b.drop k=x::y::r):uAt big b k=Q1e big x y:=by
 have g:∀j:Nat,b[k+j]?=(b.drop k)[j]?:=fun j=>by rw[List.getElem?_drop]
 have g0:=g 0;have g1:=g 1;rw[h]at g0 g1;rw[Nat.add_zero]at g0;rw[uAt,g0,g1];rfl
def Qpq(big:Bool)(b:List UInt8)(I:Int->Int->Int->Bool)(x:List Itm×Int):Nat->List AV->List Ob->Option (AV×List Ob):=Qbh (uAt big b x.2.toNat) (uAt big b (x.2+2).toNat) I
theorem Qib{big:Bool}{b:List UInt8}{a:Int}{u v:Int}(h0:0<=a)(x y:UInt8)(r:List UInt8)(hr:b.drop a.toNat=x::y::r)(hu:u=uAt big b a.toNat)(hv:v=uAt big b (a+2).toNat) :
  Q1j big (x::y::r)=if(55296<=u/\u<56320)/\a+3<b.length/\(56320<=v/\v<57344)then(65536+(u-55296) * 1024+(v-56320),4)else if 55296<=u/\u<57344 then(-1,2)else(u,2):=by
 rw[QcP hr]at hu
 have hl:(b.length:Int)=a+2+r.length:=by
  have:=congrArg List.length hr
  rw[length_drop]at this;simp only[length_cons]at this;omega
 match r,hr,hl with
 | [],hr,hl=>rw[if_neg (fun e=>by simp only[length_nil]at hl;omega),hu];rfl
 | [z],hr,hl=>rw[if_neg (fun e=>by simp only[List.length_singleton]at hl;omega),hu];rfl
 |x2::y2::r',hr,hl =>
  have hd:b.drop (a+2).toNat=x2::y2::r':=by
   rw[show(a+2).toNat=a.toNat+2 by omega,<-drop_drop,hr];rfl
  rw[QcP hd]at hv;have hL:a+3<b.length:=by simp only[length_cons]at hl;omega
  have e:((55296<=u/\u<56320)/\a+3<b.length/\(56320<=v/\v<57344))=((55296<=u/\u<56320)/\(56320<=v/\v<57344)):=by simp[hL]
  rw[hu,hv]at *;simp only[e];rfl
theorem QhN(big:Bool)(b:List UInt8)(hb:b.length<=1000000000):BCall prog 52 [.slc 1 (Q2 b),.val (.bool big)] [] (.slc 3 (QP (Q1x big 0 b))) []:=by
 obtain⟨n,hn⟩:=QE b;have jW:=Q11 b;have cI:=QpD;obtain⟨I,hI⟩:=exq isU;have xn:∀u lo hi,I u lo hi=(decide (lo<=u)&&decide (u<=hi)):=fun u lo hi=>by rw[hI];rfl
 rw[<-hI]at cI;clear hI;refine fnN (Qbh 0 0 I) func52 rfl fun _ _=>?_
 with_reducible refine cv1 (Q2 b) ?_
 refine Q46 (cs:=Qpq big b I) (ord:=fun _=>.nil) Q6k (by kernel_rfl) (by kernel_rfl) (by kernel_rfl) (X:=List Itm×Int) (fun x=>⟨[(0,.slc 1 (Q2 b)),(1,.val (.bool big)),(5,.row 0 0),(6,.val (.int .i64 x.2))],[.row 58 3 false 0 (QP x.1)]⟩) (fun x=>0<=x.2/\x.2.toNat<=b.length/\x.1++Q1x big x.2 (b.drop x.2.toNat)=Q1x big 0 b/\x.1.length<=x.2.toNat) (fun x=>b.length-x.2.toNat) ([],0) ?_ ?_ ?_
 ·simp
 ·exact⟨[none],_,rfl,by simp[Qe,lk,QP]⟩
 ·rintro⟨out,a⟩ ⟨jq,qE,jb,j5⟩
  simp only at jq qE jb j5
  have qd:(b.drop a.toNat).length=b.length-a.toNat:=length_drop;have jR:=Q3m out;have px:out.length<=1000000000:=by omega
  obtain⟨u,hu⟩:=exq (uAt big b a.toNat);obtain⟨v,hv⟩:=exq (uAt big b (a+2).toNat);have hcs:Qpq big b I (out,a)=Qbh u v I:=by rw[hu,hv];rfl
  rw[hcs];clear hcs;have qD:n<=1000000000:=by have:=hn.eq;omega
  match hr:b.drop a.toNat with
  | [] =>
   rw[hr,length_nil]at qd;have hna:a=n:=by have:=hn.eq;omega
   have kM:out=Q1x big 0 b:=by rw[<-jb,hr,Q1x,dif_pos rfl,List.append_nil]
   have jA:¬a<n:=by omega
   clear jW qd hu hv jb j5 hna;with_reducible refine cv2 (Q2 b) (QP out) ?_
   have jB:(((Q2 b).length:Nat):Int)=n:=by have:=hn.eq;have:=Q11 b;omega
   with_reducible repeat' first|refine aU (zA jB jA) ?_|refine zA ?_ ?_|intro hb
   rw[if_pos trivial];with_reducible refine cv2 (Q2 b) (QP out) ?_
   exact .pure rfl (.inl (by rw[kM]))
  | [x] =>
   rw[hr,List.length_singleton]at qd;have hna:a+1=n:=by have:=hn.eq;omega
   have jA:a<n:=by omega
   have kM:Q1x big 0 b=out++[⟨-1,a,1⟩]:=by
    rw[<-jb,hr,Q1x,dif_neg (by simp),show([x].drop (Q1j big [x]).2.toNat)=[] from rfl,Q1x,dif_pos rfl];rfl
   rw[kM,Q1I,Q1J];have hoL1:out.length+1<=1000000000:=by omega
   clear jW qd hu hv jb j5 kM;with_reducible refine cv2 (Q2 b) (QP out) ?_
   have jB:(((Q2 b).length:Nat):Int)=n:=by have:=hn.eq;have:=Q11 b;omega
   with_reducible repeat' first|refine aU (zA jB <| zA jA <| zA hna <| zA jR jq) ?_|refine zA ?_ ?_|intro hb
   all_goals
    with_reducible refine cv2 (Q2 b) (QP out) ?_
    exact .pure rfl (.inl rfl)
  |x::y::r =>
   have jI:=Qib jq x y r hr hu hv
   have hU:BCall prog 107 [.slc 1 (std.cut (Q2 b) a (a+2)),.val (.bool big)] [] (.val (.int .i64 u)) []:=by
    rw[QmD jq hr,hu,QcP hr];exact QgS big x y
   have v6:a+3<b.length->BCall prog 107 [.slc 1 (std.cut (Q2 b) (a+2) (a+4)),.val (.bool big)] [] (.val (.int .i64 v)) []:=fun hL=>by
    have hl:(b.length:Int)=a+2+r.length:=by
     have:=congrArg List.length hr
     rw[length_drop]at this;simp only[length_cons]at this;omega
    match r,hr,hl with
    | [],hr,hl=>simp only[length_nil]at hl;omega
    | [z],hr,hl=>simp only[List.length_singleton]at hl;omega
    |x2::y2::r',hr,hl =>
     have hd:b.drop (a+2).toNat=x2::y2::r':=by
      rw[show(a+2).toNat=a.toNat+2 by omega,<-drop_drop,hr];rfl
     rw[Ql5 jq hr,hv,QcP hd];exact QgS big x2 y2
   have xr:0<=u/\u<65536:=by rw[hu];exact Q33 _ _ _
   have pQ:0<=v/\v<65536:=by rw[hv];exact Q33 _ _ _
   rw[hr]at jb qd;simp only[length_cons]at qd;have jA:a<n:=by have:=hn.eq;omega
   have vI:¬a+1=n:=by have:=hn.eq;omega
   have z5:a+2<=n:=by have:=hn.eq;omega
   have wu:IntKind.wrap .i32 u=u:=Q5n u (by omega) (by omega)
   have next:∀R N:Int,Q1j big (x::y::r)=(R,N)->0<=a+N/\(a+N).toNat<=b.length/\out++[⟨R,a,N⟩]++Q1x big (a+N) (b.drop (a+N).toNat)=Q1x big 0 b/\(out++[(⟨R,a,N⟩:Itm)]).length<=(a+N).toNat/\b.length-(a+N).toNat<b.length-a.toNat:=fun R N h9=>Q2J jq qE (by rw[hr];exact jb) j5 hr (by simp) h9
   have hoL1:out.length+1<=1000000000:=by omega
   clear hu hv jb qd jW;by_cases s1:55296<=u/\u<57344
   ·have f1:I u 55296 57343=true:=by rw[xn];simp;omega
    by_cases s2:u<56320
    ·have f2:I u 55296 56319=true:=by rw[xn];simp;omega
     by_cases hL:a+3<n
     ·have xY:a+3<b.length:=by have:=hn.eq;omega
      have v6:=v6 xY;by_cases s3:56320<=v/\v<57344
      ·have f3:I v 56320 57343=true:=by rw[xn];simp;omega
       have hq:Q1j big (x::y::r)=(65536+(u-55296) * 1024+(v-56320),4):=by
        rw[jI,if_pos ⟨⟨s1.1,s2⟩,xY,s3⟩]
       have jH:=next _ _ hq
       have kN:a+4<=n:=by omega
       obtain⟨P,hP⟩:=exq (65536+(u-55296) * 1024+(v-56320));have eP:65536+1024 * (u-55296)+v-56320=P:=by omega
       have wP:IntKind.wrap .i32 (65536+1024 * (u-55296)+v-56320)=P:=by rw[eP];exact Q5n P (by omega) (by omega)
       rw[<-hP]at jH;clear next jI hq hP
       with_reducible refine cv2 (Q2 b) (QP out) ?_
       have jB:(((Q2 b).length:Nat):Int)=n:=by have:=hn.eq;have:=Q11 b;omega
       with_reducible repeat' first|refine aU (zA jB <| zA jA <| zA vI <| zA z5 <| zA jR <| zA jq <| zA wu <| zA f1 <| zA f2 <| zA f3 <| zA hL <| zA kN wP) ?_|refine zA ?_ ?_|intro hb
       all_goals first
        |exact hU
        |exact v6
        |exact cI _ _ _
        |(refine⟨(out++[⟨P,a,4⟩],a+4),⟨jH.1,jH.2.1,jH.2.2.1,jH.2.2.2.1⟩,jH.2.2.2.2,[some 0],_,rfl,?_⟩;simp[Qe,lk,std,AV.cells,intOf,Q1I,Q1J,wu,f1,f2,f3,hL,kN,wP])
      ·have f3:I v 56320 57343=false:=by rw[xn];simp;omega
       have hq:Q1j big (x::y::r)=(-1,2):=by
        rw[jI,if_neg (fun e=>s3 e.2.2),if_pos s1]
       have jH:=next _ _ hq
       have kN:a+4<=n:=by omega
       clear next jI hq
       with_reducible refine cv2 (Q2 b) (QP out) ?_
       have jB:(((Q2 b).length:Nat):Int)=n:=by have:=hn.eq;have:=Q11 b;omega
       with_reducible repeat' first|refine aU (zA jB <| zA jA <| zA vI <| zA z5 <| zA jR <| zA jq <| zA wu <| zA f1 <| zA f2 <| zA f3 <| zA hL kN) ?_|refine zA ?_ ?_|intro hb
       all_goals first
        |exact hU
        |exact v6
        |exact cI _ _ _
        |(refine⟨(out++[⟨-1,a,2⟩],a+2),⟨jH.1,jH.2.1,jH.2.2.1,jH.2.2.2.1⟩,jH.2.2.2.2,[some 0],_,rfl,?_⟩;simp[Qe,lk,std,AV.cells,intOf,Q1I,Q1J,wu,f1,f2,f3,hL,kN])
     ·have xY:¬a+3<b.length:=by have:=hn.eq;omega
      have hq:Q1j big (x::y::r)=(-1,2):=by
       rw[jI,if_neg (fun e=>xY e.2.1),if_pos s1]
      have jH:=next _ _ hq
      clear next jI hq
      with_reducible refine cv2 (Q2 b) (QP out) ?_
      have jB:(((Q2 b).length:Nat):Int)=n:=by have:=hn.eq;have:=Q11 b;omega
      with_reducible repeat' first|refine aU (zA jB <| zA jA <| zA vI <| zA z5 <| zA jR <| zA jq <| zA wu <| zA f1 <| zA f2 hL) ?_|refine zA ?_ ?_|intro hb
      all_goals first
       |exact hU
       |exact v6
       |exact cI _ _ _
       |(refine⟨(out++[⟨-1,a,2⟩],a+2),⟨jH.1,jH.2.1,jH.2.2.1,jH.2.2.2.1⟩,jH.2.2.2.2,[some 0],_,rfl,?_⟩;simp[Qe,lk,std,AV.cells,intOf,Q1I,Q1J,wu,f1,f2,hL])
    ·have f2:I u 55296 56319=false:=by rw[xn];simp;omega
     have hq:Q1j big (x::y::r)=(-1,2):=by
      rw[jI,if_neg (fun e=>s2 e.1.2),if_pos s1]
     have jH:=next _ _ hq
     clear next jI hq
     with_reducible refine cv2 (Q2 b) (QP out) ?_
     have jB:(((Q2 b).length:Nat):Int)=n:=by have:=hn.eq;have:=Q11 b;omega
     with_reducible repeat' first|refine aU (zA jB <| zA jA <| zA vI <| zA z5 <| zA jR <| zA jq <| zA wu <| zA f1 f2) ?_|refine zA ?_ ?_|intro hb
     all_goals first
      |exact hU
      |exact v6
      |exact cI _ _ _
      |(refine⟨(out++[⟨-1,a,2⟩],a+2),⟨jH.1,jH.2.1,jH.2.2.1,jH.2.2.2.1⟩,jH.2.2.2.2,[some 0],_,rfl,?_⟩;simp[Qe,lk,std,AV.cells,intOf,Q1I,Q1J,wu,f1,f2])
   ·have f1:I u 55296 57343=false:=by rw[xn];simp;omega
    have f2:I u 55296 56319=false:=by rw[xn];simp;omega
    have hq:Q1j big (x::y::r)=(u,2):=by
     rw[jI,if_neg (fun e=>s1 ⟨e.1.1,by omega⟩),if_neg s1]
    have jH:=next _ _ hq
    clear next jI hq
    with_reducible refine cv2 (Q2 b) (QP out) ?_
    have jB:(((Q2 b).length:Nat):Int)=n:=by have:=hn.eq;have:=Q11 b;omega
    with_reducible repeat' first|refine aU (zA jB <| zA jA <| zA vI <| zA z5 <| zA jR <| zA jq <| zA wu <| zA f1 f2) ?_|refine zA ?_ ?_|intro hb
    all_goals first
     |exact hU
     |exact v6
     |exact cI _ _ _
     |(refine⟨(out++[⟨u,a,2⟩],a+2),⟨jH.1,jH.2.1,jH.2.2.1,jH.2.2.2.1⟩,jH.2.2.2.2,[some 0],_,rfl,?_⟩;simp[Qe,lk,std,AV.cells,intOf,Q1I,Q1J,wu,f1,f2])
