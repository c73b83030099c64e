/- Lemmas, conditions told -/
import Derived.Test.YtnlbhaeimmenoaaGreatG11
import Derived.Test.YtnlbhaeimmenoaaGreatG10
set_option maxRecDepth 99999
set_option maxHeartbeats 0
set_option linter.unusedSimpArgs false
set_option linter.unusedVariables false
namespace Go.Proofs.YtnlbhaeimmenoaaGreat
open List(getElem?_map getElem?_eq_getElem map_cons map_append mem_cons mem_map map_drop length_drop map_take length_cons drop_drop length_nil)
open Go.RowKit Go.Lib
section
open Tryz
section
variable {w w':World}{A':Nat->Nat->Prop}
theorem Qbg{us:List Value}(h:∀u∈us,u.oneCell'=true):Alike w A' us (us.map .val):=by
 refine⟨by simp,fun j y u hy hu=>?_⟩
 rw[getElem?_map,hy]at hu;obtain rfl:AV.val y=u:=by simpa using hu
 exact PRel.val _ (h y (List.mem_of_getElem? hy))
theorem Qhj{base e sz n:Nat}{v:Value}{ys:List Value}{xs:List AV}(h:w'.ownsRow base e sz v n ys)(jh:0<sz)(j7:Alike w' A' ys (QF xs))(hn:n=xs.length)(hw:∀x∈xs,x.cells.length=sz)
  (hA:∀b o,base<=b->b<w'.heap.size->A' b o):PRel w' A' v (.slc sz xs):=by
 obtain⟨A,c,rfl,hr⟩:=Q2q h;refine QgC (S:=fun b=>base<=b/\b<w'.heap.size) ⟨hr.len,hr.le,hr.max,hr.nil,fun hp=>?_⟩ (fun b o hb=>hA b o hb.1 hb.2) hn hw (fun a ha=>?_) j7
 ·obtain⟨b,o,h1,h2,h3⟩:=hr.at_ hp
  have jH:0<ys.length:=by rw[hr.len];exact Nat.mul_pos hp jh
  have:=h3 0 ys[0] (getElem?_eq_getElem jH)
  exact⟨b,o,h1,⟨h2,World.block_lt_of_cell? w' _ this⟩,h3⟩
 ·rcases h.2 with ⟨h1,_⟩|⟨b,cap,cur,h1,_⟩
  ·cases h1;cases ha
  ·cases h1;cases ha;exact⟨b,0,rfl⟩
end
def Qc7(x:Int×Nat×Nat):Itm:=⟨x.1,x.2.1,x.2.2⟩
def Q4m(b:List UInt8):List Itm:=(Q50 b).map Qc7
theorem QaJ(l:List (Int×Nat×Nat)):QF (QM (l.map Qc7))=(Q1i l).map .val:=by
 induction l with
 |nil=>rfl
 |cons x r ih=>simp only[QM,map_cons,QF,List.flatMap_cons,Q1i,map_append]at ih ⊢;rw[ih];rfl
theorem Qnx(b:List UInt8)(hb:b.length<=100000000):BCall prog 93 [.slc 1 (Q4 b)] [] (.slc 3 (QM (Q4m b))) []:=by
 refine BCall.hand (enters_of func93 (by kernel_rfl) rfl) fun w g vs M hL=>?_
 obtain⟨v1,vs1,rfl,h1,hL⟩:=QX hL;obtain rfl:=Q2T hL;obtain⟨A,c,rfl,hr⟩:=QeP h1 M;refine(Qjs _ A _ c b w hr (by omega)).mono fun e w' ⟨v,h,⟨n',ho⟩,zH⟩=>⟨v,h,zH,?_⟩
 have hn:n'=(QM (Q4m b)).length:=by
  have:=ho.1
  rw[Q44]at this;rw[Q3o,Q4m,List.length_map];omega
 refine Qhj (A':=(g.imm w w').A) ho (by decide) ?_ hn (fun x hx=>?_) (fun b o h1 h2=>.inr ⟨h1,h2⟩)
 ·rw[Q4m,QaJ]
  refine Qbg fun u hu=>?_
  obtain⟨x,_,hx⟩:=List.mem_flatMap.1 hu;simp only[mem_cons,List.not_mem_nil,or_false]at hx;rcases hx with rfl|rfl|rfl<;>rfl
 ·obtain⟨y,_,rfl⟩:=mem_map.1 hx
  rfl
def Q4a(kind:Int)(b:List UInt8):List Itm:=if kind=0 then Q4m b else if kind=1 then Q1n true 0 b else if kind=2 then Q1n false 0 b else []
def Qri(f8:List AV->List AV)(fw:Bool->List AV->List AV):Nat->List AV->List Ob->Option (AV×List Ob):=fun f args _=>match f,args with
 |93,[.slc 1 xs]=>some (.slc 3 (f8 xs),[])
 |94,[.slc 1 xs,.val (.bool b)]=>some (.slc 3 (fw b xs),[])
 |_,_=>none
def f8A(xs:List AV):List AV:=QM (Q4m (xs.map Q2V))
def fwA(big:Bool)(xs:List AV):List AV:=QM (Q1n big 0 (xs.map Q2V))
theorem Qa4(kind:Int)(b:List UInt8)(hb:b.length<=100000000):BCall prog 46 [.val (.int .i64 kind),.slc 1 (Q4 b)] [] (.slc 3 (QM (Q4a kind b))) []:=by
 have xz:f8A (Q4 b)=QM (Q4m b):=by rw[f8A,Q3u]
 have xN:∀big,fwA big (Q4 b)=QM (Q1n big 0 b):=fun big=>by rw[fwA,Q3u]
 have c8:BCall prog 93 [.slc 1 (Q4 b)] [] (.slc 3 (f8A (Q4 b))) []:=by rw[xz];exact Qnx b hb
 have cw:∀big,BCall prog 94 [.slc 1 (Q4 b),.val (.bool big)] [] (.slc 3 (fwA big (Q4 b))) []:=fun big=>by rw[xN];exact QkV big b (by omega)
 refine fnN (Qri f8A fwA) func46 rfl fun _ _=>?_
 with_reducible refine cv3 f8A fwA (Q4 b) ?_
 refine⟨fun h=>⟨c8,.pure rfl (.inl ?_)⟩,fun h=>⟨fun h1=>⟨cw _,.pure rfl (.inl ?_)⟩,fun h1=>⟨fun h2=>⟨cw _,.pure rfl (.inl ?_)⟩,fun h2=>.pure rfl (.inr (.inl ⟨rfl,3,?_⟩))⟩⟩⟩
 ·have h:kind=0:=by simpa[std]using h
  rw[Q4a,if_pos h,xz]
 ·have h:¬kind=0:=by simpa[std]using h
  have vu:kind=1:=by simpa[std]using h1
  have h1:std.eqI kind 1=true:=h1;show AV.slc 3 (fwA (std.eqI kind 1) (Q4 b))=_;rw[Q4a,if_neg h,if_pos vu,h1,xN]
 ·have h:¬kind=0:=by simpa[std]using h
  have vu:¬kind=1:=by simpa[std]using h1
  have h2:kind=2:=by simpa[std]using h2
  have h1:std.eqI kind 1=false:=h1;show AV.slc 3 (fwA (std.eqI kind 1) (Q4 b))=_;rw[Q4a,if_neg h,if_neg vu,if_pos h2,h1,xN]
 ·have h:¬kind=0:=by simpa[std]using h
  have h1:¬kind=1:=by simpa[std]using h1
  have h2:¬kind=2:=by simpa[std]using h2
  rw[Q4a,if_neg h,if_neg h1,if_neg h2];rfl
structure Txt where
 kind:Int
 bom:Int
 r:List Int
 off:List Int
 deriving Inhabited
def Txt.cs(t:Txt):List AV:=[.val (.int .i64 t.kind),.val (.int .i64 t.bom),.slc 1 (Q0 t.r),.slc 1 (Q9 t.off)]
def Q2S(b:List UInt8):List Itm:=Q4a (QV b).1 (b.drop (QV b).2.toNat)
def Q6(b:List UInt8):Txt:=⟨(QV b).1,(QV b).2,(Q2S b).map Itm.r,(Q2S b).map (fun x=>x.off+(QV b).2)++[(b.length:Int)]⟩
theorem Q4Z(b:List UInt8):0<=(QV b).2/\(QV b).2<=b.length:=by
 have key:∀(x:List UInt8×Int×Int),x∈signsL->x.1.isPrefixOf b=true->0<=x.2.2/\x.2.2<=b.length:=by
  intro x hx hp;have:=(List.isPrefixOf_iff_prefix.1 hp).length_le
  simp only[signsL,mem_cons,List.not_mem_nil,or_false]at hx;rcases hx with rfl|rfl|rfl|rfl|rfl<;>simp at this ⊢<;>omega
 unfold QV kR;split
 ·rename_i x hx
  have h1:=List.find?_some hx;have h2:=List.mem_of_find?_eq_some hx;exact key x (by simpa using h2) h1
 ·simp only;omega
def csD(k bom:Int)(pc:Int->List AV->List AV):Nat->List AV->List Ob->Option (AV×List Ob):=fun f args _=>match f,args with
 |45,_=>some (.tup [.val (.int .i64 k),.val (.int .i64 bom)],[])
 |46,[.val (.int .i64 k),.slc 1 xs]=>some (.slc 3 (pc k xs),[])
 |_,_=>none
def pcA(k:Int)(xs:List AV):List AV:=QM (Q4a k (xs.map Q2V))
theorem Qmg(b:List UInt8)(hb:b.length<=1000000)(jm:(Q2S b).length<=1000000)(qe:∀x∈Q2S b,0<=x.off/\x.off<=1000000) :
  BCall prog 21 [.slc 1 (Q4 b)] [] (.agg (Q6 b).cs) []:=by
 have z8:=Q4Z b;have cK:=QnD b;obtain⟨k,hk⟩:=exq ((QV b).1);obtain⟨bom,vg⟩:=exq ((QV b).2);obtain⟨ps,yP⟩:=exq (Q2S b);have hT:Q6 b=⟨k,bom,ps.map Itm.r,ps.map (fun x=>x.off+bom)++[(b.length:Int)]⟩:=by rw[hk,vg,yP];rfl
 have nX:ps=Q4a k (b.drop bom.toNat):=by rw[hk,vg,yP];rfl
 rw[hT];rw[<-yP]at jm qe;rw[<-hk,<-vg]at cK;rw[<-vg]at z8;clear hT hk vg yP
 have jU:std.cut (Q4 b) bom (std.len (Q4 b))=Q4 (b.drop bom.toNat):=by
  show((Q4 b).drop bom.toNat).take ((Q4 b).length-bom:Int).toNat=_
  rw[Q4,Q4,map_drop,List.take_of_length_le (by simp;omega)]
 have hpc:pcA k (std.cut (Q4 b) bom (std.len (Q4 b)))=QM ps:=by rw[jU,pcA,Q3u,nX]
 have cP:BCall prog 46 [.val (.int .i64 k),.slc 1 (std.cut (Q4 b) bom (std.len (Q4 b)))] [] (.slc 3 (pcA k (std.cut (Q4 b) bom (std.len (Q4 b))))) []:=by
  rw[hpc,jU,nX];exact Qa4 k _ (by rw[length_drop];omega)
 obtain⟨nb,yQ⟩:=QG b;obtain⟨n,hn⟩:=QG ps;have nY:bom<=nb:=by rw[yQ.eq];exact z8.2
 have xo:=z8.1;clear z8;refine fnO false (csD k bom pcA) (fun id=>match id with|3=>.of [0,1,2,3,4,5,8,6,7]|_=>.nil) func21 rfl fun _ _=>?_
 with_reducible refine cv2 pcA (Q4 b) ?_
 have enb:=yQ.eq;have en:=hn.eq;have jW:=Q1c b;refine⟨cK,?_,cP,?_⟩
 ·simp only[std,jW];omega
 have qf:std.len (pcA k (std.cut (Q4 b) bom (std.len (Q4 b))))=n:=by rw[hpc];simp only[std,Q3o];omega
 refine Q1h (csD k bom pcA) (Int) (fun i=>⟨[(0,.slc 1 (Q4 b)),(2,.box 0 0),(3,.box 1 0),(20,.slc 3 (QM ps)),(21,.val (.int .i64 n)),(22,.val (.int .i64 i))],[.box [.val (.int .i64 0),.val (.int .i64 0),.val (.slice none 0 0),.val (.slice none 0 0)],.box [.val (.int .i64 k),.val (.int .i64 bom),.row 2 0,.row 3 0],.row 21 1 false 0 (Q0 ((ps.take i.toNat).map Itm.r)),.row 3 1 false 0 (Q9 ((ps.take i.toNat).map fun x=>x.off+bom))]⟩) (fun i=>0<=i/\i<=n) (fun i=>(n-i).toNat) 0 ?_ ?_ ?_
 ·omega
 ·refine⟨[some 0,some 1,none,none],_,rfl,?_⟩
  simp only[Int.toNat_zero,List.take_zero,List.map_nil]
  repeat first
   |exact trivial
   |refine⟨gA hpc,?_⟩
   |refine⟨gI qf,?_⟩
   |refine⟨rfl,?_⟩
 ·rintro i ⟨jN,jS⟩
  have j3:=Q3o ps;rcases Int.lt_or_eq_of_le jS with jB|j4
  ·have jX:(QM ps)[i.toNat]?.getD .dead=(ps[i.toNat]?.getD ⟨0,0,0⟩).av:=QfP Itm.av jN (by omega) ⟨0,0,0⟩
   have vV:i.toNat<ps.length:=by omega
   have hx:=qe (ps[i.toNat]?.getD ⟨0,0,0⟩) (by simp[vV])
   have ht:ps.take (i+1).toNat=ps.take i.toNat++[ps[i.toNat]?.getD ⟨0,0,0⟩]:=by
    rw[show(i+1).toNat=i.toNat+1 by omega,List.take_add_one]
    simp[vV]
   have vB:Q0 ((ps.take (i+1).toNat).map Itm.r)=Q0 ((ps.take i.toNat).map Itm.r)++[.val (.int .i32 (ps[i.toNat]?.getD ⟨0,0,0⟩).r)]:=by
    rw[ht,map_append,Q8V];rfl
   have q6:Q9 ((ps.take (i+1).toNat).map fun x=>x.off+bom)=Q9 ((ps.take i.toNat).map fun x=>x.off+bom)++[.val (.int .i64 ((ps[i.toNat]?.getD ⟨0,0,0⟩).off+bom))]:=by
    rw[ht,map_append,Q55];rfl
   have yb:(Q0 ((ps.take i.toNat).map Itm.r)).length<=1000000:=by simp[Q0];omega
   have vt:(Q9 ((ps.take i.toNat).map fun x=>x.off+bom)).length<=1000000:=by simp[Q9];omega
   obtain⟨x,hxE⟩:=exq (ps[i.toNat]?.getD ⟨0,0,0⟩);rw[<-hxE]at jX hx vB q6;obtain⟨R,hR⟩:=exq (Q0 ((ps.take i.toNat).map Itm.r));obtain⟨O,hO⟩:=exq (Q9 ((ps.take i.toNat).map fun x=>x.off+bom))
   rw[<-hR]at vB yb ⊢;rw[<-hO]at q6 vt ⊢;clear en enb ht;with_reducible refine cv3 pcA (Q4 b) (QM ps) ?_
   have en:=hn.eq;have enb:=yQ.eq
   repeat' first
    |(with_reducible refine And.intro (fun hx=>absurd hx (by first|(try simp[std,S1,jX,Itm.av,j3,jB,jN])<;>omega|omega)) (fun _=>?_))
    |(with_reducible refine And.intro (fun _=>?_) (fun hx=>absurd hx (by first|(try simp[std,S1,jX,Itm.av,j3,jB,jN])<;>omega|omega)))
    |(with_reducible refine And.intro (by first|(try simp[std,S1,jX,Itm.av,j3,jB,jN])<;>omega|omega) ?_)
    |(with_reducible refine And.intro ?_ ?_)
    |(with_reducible intro hb)
   exact⟨i+1,⟨by omega,by omega⟩,by omega,[some 0,some 1,some 2,some 3],_,rfl,by simp[-map_take,Qm,lk,std,jX,j3,Itm.av,AV.cells,RowKit.intOf,vB,q6]⟩
  ·have ht:ps.take i.toNat=ps:=List.take_of_length_le (by omega)
   rw[ht];have vt:(Q9 (ps.map fun x=>x.off+bom)).length<=1000000:=by simp[Q9];omega
   have hf:Q9 (ps.map (fun x=>x.off+bom)++[(b.length:Int)])=Q9 (ps.map fun x=>x.off+bom)++[.val (.int .i64 nb)]:=by
    rw[Q55,yQ.eq];rfl
   have hlb:std.len (Q4 b)=nb:=by rw[enb];simp only[std,jW]
   obtain⟨R,hR⟩:=exq (Q0 (ps.map Itm.r));obtain⟨O,hO⟩:=exq (Q9 (ps.map fun x=>x.off+bom))
   rw[<-hO]at vt hf
   have hcs:(Txt.mk k bom (ps.map Itm.r) (ps.map (fun x=>x.off+bom)++[(b.length:Int)])).cs=[.val (.int .i64 k),.val (.int .i64 bom),.slc 1 R,.slc 1 (O++[.val (.int .i64 nb)])]:=by
    rw[Txt.cs,hf,hR]
   rw[hcs,<-hR,<-hO];clear en enb ht hcs;with_reducible refine cv3 pcA (Q4 b) (QM ps) ?_
   with_reducible repeat' first|refine aU j4 ?_|refine And.intro ?_ ?_|intro hb
   rw[if_pos trivial];with_reducible refine cv3 pcA (Q4 b) (QM ps) ?_
   refine⟨?_,.pure rfl ?_⟩
   ·simp[std];omega
   ·refine⟨.inl rfl,.inl rfl,.inl rfl,.inl ?_,trivial⟩
    show AV.slc 1 (std.app O [.val (.int .i64 (std.len (Q4 b)))])=_;rw[hlb];rfl
theorem Qr2(t:Txt)(a b:Int)(h0:0<=a)(h1:a<=b)(h2:b<=t.r.length):BCall prog 63 [.agg t.cs,.val (.int .i64 a),.val (.int .i64 b)] [] (.val (.bool true)) []:=by
 obtain⟨n,hn⟩:=QG t.r;have pA:b<=n:=by rw[hn.eq];exact h2
 clear h2;unfold Txt.cs;obtain⟨k,hk⟩:=exq t.kind;obtain⟨m,hm⟩:=exq t.bom;obtain⟨R,hR⟩:=exq (Q0 t.r);obtain⟨O,hO⟩:=exq (Q9 t.off);have hRl:R.length=t.r.length:=by rw[hR,Qx]
 rw[<-hk,<-hm,<-hR,<-hO];refine fnN (cs0) func63 rfl fun _ _=>?_
 with_reducible refine cv0 ?_
 have en:=hn.eq;have hRn:((R.length:Nat):Int)=n:=by omega
 with_reducible repeat' first|refine aU (zA hRn <| zA h0 <| zA h1 pA) ?_|refine And.intro ?_ ?_|intro hb
 refine .pure rfl (.inl ?_);have:std.leI b (std.len R)=true:=by simp only[std,hRn];exact decide_eq_true pA
 show AV.val (.bool (std.leI b (std.len R)))=_;rw[this]
def Qr4:Nat->List AV->List Ob->Option (AV×List Ob):=fun f args _=>match f,args with
 |63,_=>some (.val (.bool true),[])
 |155,[.slc 1 xs]=>some (.slc 1 xs,[])
 |_,_=>none
structure TxtOk (t:Txt) (b:List UInt8):Prop where
 len:t.off.length=t.r.length+1
 range:∀x∈t.off,0<=x/\x<=b.length
 last:t.off[t.r.length]?.getD 0=b.length
 mono:∀i j:Nat,i<=j->j<=t.r.length->t.off[i]?.getD 0<=t.off[j]?.getD 0
def QQ(t:Txt)(b:List UInt8)(i j:Int):List UInt8:=(b.drop (t.off[i.toNat]?.getD 0).toNat).take ((t.off[j.toNat]?.getD 0)-(t.off[i.toNat]?.getD 0)).toNat
theorem Qnc(t:Txt)(bs:List UInt8)(kQ:bs.length<=1000000)(ok:TxtOk t bs)(qB:t.r.length<=1000000)(i j:Int)(h0:0<=i)(h1:i<=j)(h2:j<=t.r.length) :
  BCall prog 134 [.agg t.cs,.slc 1 (Q4 bs),.val (.int .i64 i),.val (.int .i64 j)] [] (.slc 1 (Q4 (QQ t bs i j))) []:=by
 have cI:=Qr2 t i j h0 h1 h2;obtain⟨lo,yG⟩:=exq (t.off[i.toNat]?.getD 0);obtain⟨hi,ye⟩:=exq (t.off[j.toNat]?.getD 0);have jR:=ok.len;have olen:=Q31 t.off;have alo:=Q3L (l:=t.off) (i:=i) h0 (by omega)
 have ahi:=Q3L (l:=t.off) (i:=j) (by omega) (by omega)
 have ala:=Q3L (l:=t.off) (i:=(t.r.length:Int)) (by omega) (by omega)
 rw[Int.toNat_natCast,ok.last]at ala;rw[<-yG]at alo;rw[<-ye]at ahi;have jJ:lo<=hi:=by rw[yG,ye];exact ok.mono _ _ (by omega) (by omega)
 have hlo0:0<=lo:=by
  have h3:i.toNat<t.off.length:=by omega
  have:=ok.range (t.off[i.toNat]'h3) (List.getElem_mem h3)
  rw[yG,getElem?_eq_getElem h3];exact this.1
 obtain⟨nb,yQ⟩:=QG bs
 have hhin:hi<=nb:=by
  have h3:j.toNat<t.off.length:=by omega
  have:=ok.range (t.off[j.toNat]'h3) (List.getElem_mem h3)
  rw[ye,yQ.eq,getElem?_eq_getElem h3];exact this.2
 have jU:std.cut (Q4 bs) lo hi=Q4 (QQ t bs i j):=by
  show((Q4 bs).drop lo.toNat).take (hi-lo).toNat=_
  rw[QQ,<-yG,<-ye,Q4,Q4,map_take,map_drop]
 obtain⟨nr,gr⟩:=QG t.r;have hjn:j<=nr:=by rw[gr.eq];exact h2
 have cC:BCall prog 155 [.slc 1 (std.cut (Q4 bs) lo hi)] [] (.slc 1 (std.cut (Q4 bs) lo hi)) []:=QkU _ (by rw[jU,Q1c,QQ,List.length_take,length_drop];omega)
 rw[<-jU];clear jU ok yG ye h2;unfold Txt.cs at cI ⊢;obtain⟨k,hk⟩:=exq t.kind;obtain⟨m,hm⟩:=exq t.bom;obtain⟨R,hR⟩:=exq (Q0 t.r);obtain⟨O,hO⟩:=exq (Q9 t.off);rw[<-hk,<-hm,<-hR,<-hO]at cI ⊢;rw[<-hO]at alo ahi ala olen;refine fnN (Qr4) func134 rfl fun _ _=>?_
 with_reducible refine cv1 (Q4 bs) ?_
 have enb:=yQ.eq;have enr:=gr.eq;have jW:=Q1c bs;have hON:((O.length:Nat):Int)=nr+1:=by omega
 have hON2:((O.length:Nat):Int)-1=nr:=by omega
 have ala:O[nr.toNat]?.getD .dead=.val (.int .i64 nb):=by rw[show nr.toNat=t.r.length by omega,enb];exact ala
 have nY:(((Q4 bs).length:Nat):Int)=nb:=by omega
 have nZ:std.int (std.nth (std.cel (std.at_ O i)) 0)=lo:=by simp[std,alo,AV.cells,RowKit.intOf]
 have hh':std.int (std.nth (std.cel (std.at_ O j)) 0)=hi:=by simp[std,ahi,AV.cells,RowKit.intOf]
 with_reducible repeat' first|refine aU (zA cI <| zA alo <| zA ahi <| zA ala <| zA hON <| zA hON2 <| zA nY <| zA hlo0 <| zA jJ hhin) ?_|refine And.intro ?_ ?_|intro hb
 ·show BCall _ _ [.slc 1 (std.cut (Q4 bs) (std.int (std.nth (std.cel (std.at_ O i)) 0)) (std.int (std.nth (std.cel (std.at_ O j)) 0)))] [] (.slc 1 (std.cut (Q4 bs) (std.int (std.nth (std.cel (std.at_ O i)) 0)) (std.int (std.nth (std.cel (std.at_ O j)) 0)))) []
  rw[nZ,hh'];exact cC
 ·refine .pure rfl (.inl ?_)
  show AV.slc 1 (std.cut (Q4 bs) (std.int (std.nth (std.cel (std.at_ O i)) 0)) (std.int (std.nth (std.cel (std.at_ O j)) 0)))=_;rw[nZ,hh']
theorem Qn4(x y:List Int)(hx:x.length<=1000000000)(hy:y.length<=1000000000):BCall prog 133 [.slc 1 (Q0 x),.slc 1 (Q0 y)] [] (.val (.bool (decide (x=y)))) []:=by
 obtain⟨n,hn⟩:=QG x;obtain⟨m,hm⟩:=QG y;obtain⟨e,he⟩:=exq (decide (x=y));rw[<-he];have jr:=Qx x;have hyl:=Qx y;refine fnN (cs0) func133 rfl fun _ _=>?_
 with_reducible refine cv2 (Q0 x) (Q0 y) ?_
 have en:=hn.eq;have em:=hm.eq;have jC:(((Q0 x).length:Nat):Int)=n:=by omega
 have cd:(((Q0 y).length:Nat):Int)=m:=by omega
 refine⟨fun h=>?_,fun h=>?_⟩
 ·have h:¬n=m:=by simpa[std,jC,cd]using h
  refine .pure rfl (.inl ?_);rw[he,decide_eq_false (fun h2=>h (by rw[en,em,h2]))]
 ·have h:n=m:=by simpa[std,jC,cd]using h
  refine Q1h (cs0) (Int) (fun i=>⟨[(0,.slc 1 (Q0 x)),(1,.slc 1 (Q0 y)),(12,.val (.int .i64 n)),(13,.val (.int .i64 i))],[]⟩) (fun i=>0<=i/\i<=n/\∀j:Nat,(j:Int)<i->x[j]?.getD 0=y[j]?.getD 0) (fun i=>(n-i).toNat) 0 ?_ ?_ ?_
  ·exact⟨by omega,by omega,fun j hj=>by omega⟩
  ·exact⟨[],_,rfl,by simp[Qm,lk,std,jC]⟩
  ·rintro i ⟨jN,jS,hi⟩
   have c7:∀j:Nat,j<i.toNat->x[j]?.getD 0=y[j]?.getD 0:=fun j hj=>hi j (by omega)
   clear hi;rcases Int.lt_or_eq_of_le jS with jB|j4
   ·have ax:=QN (l:=x) jN (by omega)
    have ay:=QN (l:=y) jN (by omega)
    have hltm:i<m:=by omega
    clear en em h jC cd;with_reducible refine cv2 (Q0 x) (Q0 y) ?_
    have en:=hn.eq;have em:=hm.eq;have jC:(((Q0 x).length:Nat):Int)=n:=by omega
    have cd:(((Q0 y).length:Nat):Int)=m:=by omega
    with_reducible repeat' first|refine aU (zA ax <| zA ay <| zA jC <| zA cd <| zA jB <| zA hltm jN) ?_|refine And.intro ?_ ?_|intro hb
    ·have jI:¬x[i.toNat]?.getD 0=y[i.toNat]?.getD 0:=by simpa[std,ax,ay,AV.cells,RowKit.intOf]using hb
     with_reducible refine cv2 (Q0 x) (Q0 y) ?_
     refine .pure rfl (.inl ?_);rw[he,decide_eq_false (fun h2=>jI (by rw[h2]))]
    ·have j4:x[i.toNat]?.getD 0=y[i.toNat]?.getD 0:=by simpa[std,ax,ay,AV.cells,RowKit.intOf]using hb
     refine⟨i+1,⟨by omega,by omega,fun j hj=>?_⟩,by omega,[],_,rfl,by simp[Qm,lk,std]⟩
     have hj:(j:Int)<i+1:=hj;by_cases qg:j<i.toNat
     ·exact c7 j qg
     ·obtain rfl:j=i.toNat:=by omega
      exact j4
   ·have pB:x=y:=by
     refine List.ext_getElem (by omega) fun j h1 h2=>?_
     have:=c7 j (by omega)
     rw[getElem?_eq_getElem h1,getElem?_eq_getElem h2]at this;exact this
    clear en em h jC cd;with_reducible refine cv2 (Q0 x) (Q0 y) ?_
    with_reducible repeat' first|refine aU j4 ?_|refine And.intro ?_ ?_|intro hb
    rw[if_pos trivial];with_reducible refine cv2 (Q0 x) (Q0 y) ?_
    refine .pure rfl (.inl ?_);rw[he,decide_eq_true pB]
end
def Qbf:Int->List Itm->Int->Prop
 |a,[],e=>a=e
 |a,x::r,e=>x.off=a/\1<=x.n/\Qbf (a+x.n) r e
theorem Qgi(big:Bool):∀(n:Nat)(l:List UInt8)(a:Int),l.length<=n->Qbf a (Q1n big a l) (a+l.length):=by
 intro n;induction n with
 |zero =>
  intro l a h;have:l=[]:=List.eq_nil_of_length_eq_zero (by omega)
  subst this;rw[Q1n,dif_pos rfl];show a=_;simp
 |succ n ih =>
  intro l a h;by_cases hl:l=[]
  ·subst hl
   rw[Q1n,dif_pos rfl];show a=_;simp
  ·have hs:=Q6L big l hl
   rw[Q1n,dif_neg hl];refine⟨rfl,hs.1,?_⟩;have:=ih (l.drop (Q1d big l).2.toNat) (a+(Q1d big l).2) (by rw[length_drop];omega)
   rw[length_drop]at this;rw[show a+(Q1d big l).2+((l.length-(Q1d big l).2.toNat:Nat):Int)=a+l.length by omega]at this
   exact this
theorem Qmt(l:List UInt8)(h:l≠[]):1<=(Qo l).2/\(Qo l).2<=l.length:=by
 have hl:0<l.length:=List.length_pos_iff.2 h;unfold Qo;split
 ·exact⟨Nat.le_refl _,hl⟩
 ·exact⟨decodeL_width _,decodeL_le _ h⟩
theorem Qeo:∀(n off:Nat)(l:List UInt8),l.length<=n->Qbf off ((Q22 n off l).map Qc7) (off+l.length:Int):=by
 intro n;induction n with
 |zero =>
  intro off l h;have:l=[]:=List.eq_nil_of_length_eq_zero (by omega)
  subst this;show(off:Int)=_
  simp
 |succ n ih =>
  intro off l h;cases l with
  |nil=>show(off:Int)=_;simp
  |cons b t =>
   have hs:=Qmt (b::t) (by simp)
   refine⟨rfl,by show(1:Int)<=((Qo (b::t)).2:Int);omega,?_⟩
   have:=ih (off+(Qo (b::t)).2) ((b::t).drop (Qo (b::t)).2) (by rw[length_drop];omega)
   rw[length_drop]at this;rw[show((off+(Qo (b::t)).2:Nat):Int)+(((b::t).length-(Qo (b::t)).2:Nat):Int)=off+(b::t).length by omega,show((off+(Qo (b::t)).2:Nat):Int)=off+(Qo (b::t)).2 by omega]at this
   exact this
theorem QbK:∀(ps:List Itm)(a e:Int),Qbf a ps e->(ps.length:Int)<=e-a/\(∀x∈ps.map Itm.off++[e],a<=x/\x<=e)/\List.Pairwise (·<=·) (ps.map Itm.off++[e])/\(ps.map Itm.off++[e])[0]?=some a
 | [],a,e,h=>by
  have h:a=e:=h;subst h;simp
 |x::r,a,e,h=>by
  obtain⟨h1,h2,h3⟩:=h;obtain⟨h4,h5,h6,h7⟩:=QbK r _ e h3;refine⟨by simp only[length_cons];omega,fun y hy=>?_,?_,by simp[h1]⟩
  ·simp only[map_cons,List.cons_append,mem_cons]at hy
   rcases hy with rfl|hy
   ·have:=h5 e (by simp);omega
   ·have:=h5 y hy;omega
  ·simp only[map_cons,List.cons_append]
   exact List.pairwise_cons.2 ⟨fun y hy=>by have:=h5 y hy;omega,h6⟩
theorem Q4J(b:List UInt8):(QV b).1=0\/(QV b).1=1\/(QV b).1=2:=by
 have key:∀(x:List UInt8×Int×Int),x∈signsL->x.2.1=0\/x.2.1=1\/x.2.1=2:=by decide
 unfold QV kR;split
 ·rename_i x hx
  exact key x (by simpa using List.mem_of_find?_eq_some hx)
 ·exact .inl rfl
theorem QfK(b:List UInt8):Qbf 0 (Q2S b) (b.length-(QV b).2):=by
 have hb:=Q4Z b;have hl:(((b.drop (QV b).2.toNat).length:Nat):Int)=b.length-(QV b).2:=by rw[length_drop];omega
 have h8:=Qeo _ 0 (b.drop (QV b).2.toNat) (Nat.le_refl _);have hw:=fun big=>Qgi big _ (b.drop (QV b).2.toNat) 0 (Nat.le_refl _)
 rw[hl,Int.zero_add]at hw;rw[hl,show((0:Nat):Int)=0 from rfl,Int.zero_add]at h8;rw[Q2S];rcases Q4J b with h|h|h
 ·rw[Q4a,if_pos h];exact h8
 ·rw[Q4a,if_neg (by omega),if_pos h];exact hw true
 ·rw[Q4a,if_neg (by omega),if_neg (by omega),if_pos h];exact hw false
theorem QeV(b:List UInt8):(Q6 b).off=((Q2S b).map Itm.off++[(b.length:Int)-(QV b).2]).map (· + (QV b).2):=by
 show(Q2S b).map _++[(b.length:Int)]=_
 simp
theorem Q3t(b:List UInt8):TxtOk (Q6 b) b/\(Q6 b).off[0]?.getD 0=(QV b).2/\(Q6 b).r.length<=b.length/\(Q2S b).length<=b.length/\∀x∈Q2S b,0<=x.off/\x.off<=b.length:=by
 have hb:=Q4Z b;obtain⟨h1,h2,h3,h4⟩:=QbK _ _ _ (QfK b);have hr:(Q6 b).r.length=(Q2S b).length:=by show((Q2S b).map Itm.r).length=_;simp
 have ho:=QeV b;generalize hL:(Q2S b).map Itm.off++[(b.length:Int)-(QV b).2]=L at h2 h3 h4 ho;have qV:L.length=(Q2S b).length+1:=by rw[<-hL];simp
 have ji:L[(Q2S b).length]?=some ((b.length:Int)-(QV b).2):=by rw[<-hL,List.getElem?_append_right (by simp)];simp
 refine⟨⟨by rw[ho,hr,List.length_map,qV],fun x hx=>?_,?_,fun i j pP hj=>?_⟩,?_,by omega,by omega,fun x hx=>?_⟩
 ·rw[ho]at hx
  obtain⟨y,hy,rfl⟩:=mem_map.1 hx;have:=h2 y hy;omega
 ·rw[ho,hr,getElem?_map,ji]
  show(b.length:Int)-(QV b).2+(QV b).2=_
  omega
 ·have qn:i<L.length:=by omega
  have zw:j<L.length:=by omega
  rw[ho,getElem?_map,getElem?_map,getElem?_eq_getElem qn,getElem?_eq_getElem zw];show L[i]+_<=L[j]+_;rcases Nat.lt_or_eq_of_le pP with h|h
  ·have:=List.pairwise_iff_getElem.1 h3 i j qn zw h
   omega
  ·subst h;exact Int.le_refl _
 ·rw[ho,getElem?_map,h4]
  show(0:Int)+_=_
  omega
 ·have:=h2 x.off (by rw[<-hL];exact List.mem_append_left _ (mem_map.2 ⟨x,hx,rfl⟩))
  omega
section
open Tryz
theorem Qhf(big:Bool)(x y:UInt8):BCall prog 112 [.slc 1 (Q4 [x,y]),.val (.bool big)] [] (.val (.int .i64 (Q1b big x y))) []:=by
 have e:Q4 [x,y]=[.val (.int .u8 (x.toNat:Int)),.val (.int .u8 (y.toNat:Int))]:=rfl;rw[e];have hx:=x.toNat_lt;have hy:=y.toNat_lt;obtain⟨m,hm⟩:=exq ((x.toNat:Int):Int);obtain⟨n,hn⟩:=exq ((y.toNat:Int):Int);have m0:0<=m/\m<256:=by omega
 have n0:0<=n/\n<256:=by omega
 obtain⟨U,hU⟩:=exq (Q1b big x y);have vo:U=if big=true then m * 256+n else n * 256+m:=by rw[hU,hm,hn];rfl
 rw[<-hU,<-hm,<-hn];clear hU hx hy hm hn e;have bm:(-9223372036854775808:Int)<=m/\m<=(9223372036854775807:Int):=by omega
 have bn:(-9223372036854775808:Int)<=n/\n<=(9223372036854775807:Int):=by omega
 have wm:IntKind.wrap .i64 m=m:=Q43 .i64 m bm;have wn:IntKind.wrap .i64 n=n:=Q43 .i64 n bn;cases big
 ·have hU3:U=256 * n+m:=by rw[vo,if_neg (by decide)];omega
  clear vo;refine fnN (cs0) func112 rfl fun _ _=>?_
  with_reducible refine cv0 ?_
  with_reducible repeat' first|refine aU (zA wm wn) ?_|refine And.intro ?_ ?_|intro hb
  all_goals exact .pure rfl (.inl (by rw[hU3];simp[std,AV.cells,RowKit.intOf,wm,wn]))
 ·have hU3:U=256 * m+n:=by rw[vo,if_pos rfl];omega
  clear vo;refine fnN (cs0) func112 rfl fun _ _=>?_
  with_reducible refine cv0 ?_
  with_reducible repeat' first|refine aU (zA wm wn) ?_|refine And.intro ?_ ?_|intro hb
  all_goals exact .pure rfl (.inl (by rw[hU3];simp[std,AV.cells,RowKit.intOf,wm,wn]))
def isU(u lo hi:Int):Bool:=decide (lo<=u)&&decide (u<=hi)
theorem QqE(u lo hi:Int):BCall prog 113 [.val (.int .i64 u),.val (.int .i64 lo),.val (.int .i64 hi)] [] (.val (.bool (isU u lo hi))) []:=by
 obtain⟨r,hr⟩:=exq (isU u lo hi);rw[<-hr];rw[isU]at hr;by_cases h1:lo<=u
 ·refine fnN (cs0) func113 rfl fun _ _=>?_
  with_reducible refine cv0 ?_
  with_reducible repeat' first|refine aU h1 ?_|refine And.intro ?_ ?_|intro hb
  all_goals exact .pure rfl (.inl (by rw[hr];simp[std,h1]))
 ·refine fnN (cs0) func113 rfl fun _ _=>?_
  with_reducible refine cv0 ?_
  with_reducible repeat' first|refine aU h1 ?_|refine And.intro ?_ ?_|intro hb
  all_goals exact .pure rfl (.inl (by rw[hr];simp[std,h1]))
theorem Qor{b:List UInt8}{a:Int}{x y:UInt8}{r:List UInt8}(h0:0<=a)(h:b.drop a.toNat=x::y::r):std.cut (Q4 b) a (a+2)=Q4 [x,y]:=by
 show((Q4 b).drop a.toNat).take (a+2-a).toNat=_
 rw[show(a+2-a).toNat=2 by omega,Q4,<-map_drop,h];rfl
theorem QlF{b:List UInt8}{a:Int}{x y x2 y2:UInt8}{r:List UInt8}(h0:0<=a)(h:b.drop a.toNat=x::y::x2::y2::r):std.cut (Q4 b) (a+2) (a+4)=Q4 [x2,y2]:=by
 show((Q4 b).drop (a+2).toNat).take (a+4-(a+2)).toNat=_
 rw[show(a+4-(a+2)).toNat=2 by omega,show(a+2).toNat=a.toNat+2 by omega,Q4,<-map_drop,<-drop_drop,h];rfl
def QpA(u v:Int)(I:Int->Int->Int->Bool):Nat->List AV->List Ob->Option (AV×List Ob):=fun f args _=>match f,args with
 |1000030,_=>some (.val (.int .i64 u),[])
 |1000054,_=>some (.val (.int .i64 v),[])
 |113,[.val (.int .i64 u),.val (.int .i64 lo),.val (.int .i64 hi)]=>some (.val (.bool (I u lo hi)),[])
 |_,_=>none
def uAt(big:Bool)(b:List UInt8)(k:Nat):Int:=Q1b big (b[k]?.getD 0) (b[k+1]?.getD 0)
theorem Qdb{big:Bool}{b:List UInt8}{k:Nat}{x y:UInt8}{r:List UInt8}(h:b.drop k=x::y::r):uAt big b k=Q1b big x y:=by
 have g:∀j:Nat,b[k+j]?=(b.drop k)[j]?:=fun j=>by rw[List.getElem?_drop]
 have g0:=g 0;have g1:=g 1;rw[h]at g0 g1;rw[Nat.add_zero]at g0;rw[uAt,g0,g1];rfl
def QqJ(big:Bool)(b:List UInt8)(I:Int->Int->Int->Bool)(x:List Itm×Int):Nat->List AV->List Ob->Option (AV×List Ob):=QpA (uAt big b x.2.toNat) (uAt big b (x.2+2).toNat) I
theorem QjP{big:Bool}{b:List UInt8}{a:Int}{u v:Int}(h0:0<=a)(x y:UInt8)(r:List UInt8)(hr:b.drop a.toNat=x::y::r)(hu:u=uAt big b a.toNat)(hv:v=uAt big b (a+2).toNat) :
  Q1d big (x::y::r)=if(55296<=u/\u<56320)/\a+3<b.length/\(56320<=v/\v<57344)then(65536+(u-55296) * 1024+(v-56320),4)else if 55296<=u/\u<57344 then(-1,2)else(u,2):=by
 rw[Qdb hr]at hu
 have hl:(b.length:Int)=a+2+r.length:=by
  have:=congrArg List.length hr
  rw[length_drop]at this;simp only[length_cons]at this;omega
 match r,hr,hl with
 | [],hr,hl=>rw[if_neg (fun e=>by simp only[length_nil]at hl;omega),hu];rfl
 | [z],hr,hl=>rw[if_neg (fun e=>by simp only[List.length_singleton]at hl;omega),hu];rfl
 |x2::y2::r',hr,hl =>
  have hd:b.drop (a+2).toNat=x2::y2::r':=by
   rw[show(a+2).toNat=a.toNat+2 by omega,<-drop_drop,hr];rfl
  rw[Qdb hd]at hv;have hL:a+3<b.length:=by simp only[length_cons]at hl;omega
  have e:((55296<=u/\u<56320)/\a+3<b.length/\(56320<=v/\v<57344))=((55296<=u/\u<56320)/\(56320<=v/\v<57344)):=by simp[hL]
  rw[hu,hv]at *;simp only[e];rfl
theorem QiA(big:Bool)(b:List UInt8)(hb:b.length<=1000000000):BCall prog 80 [.slc 1 (Q4 b),.val (.bool big)] [] (.slc 3 (QM (Q1n big 0 b))) []:=by
 obtain⟨n,hn⟩:=QG b;have jW:=Q1c b;have cI:=QqE;obtain⟨I,hI⟩:=exq isU;have xl:∀u lo hi,I u lo hi=(decide (lo<=u)&&decide (u<=hi)):=fun u lo hi=>by rw[hI];rfl
 rw[<-hI]at cI;clear hI;refine fnN (QpA 0 0 I) func80 rfl fun _ _=>?_
 with_reducible refine cv1 (Q4 b) ?_
 refine Qal (cs:=QqJ big b I) (ord:=fun _=>.nil) Q80 (by kernel_rfl) (by kernel_rfl) (by kernel_rfl) (X:=List Itm×Int) (fun x=>⟨[(0,.slc 1 (Q4 b)),(1,.val (.bool big)),(5,.row 0 0),(6,.val (.int .i64 x.2))],[.row 99 3 false 0 (QM x.1)]⟩) (fun x=>0<=x.2/\x.2.toNat<=b.length/\x.1++Q1n big x.2 (b.drop x.2.toNat)=Q1n big 0 b/\x.1.length<=x.2.toNat) (fun x=>b.length-x.2.toNat) ([],0) ?_ ?_ ?_
 ·simp
 ·exact⟨[none],_,rfl,by simp[Qm,lk,QM]⟩
 ·rintro⟨out,a⟩ ⟨js,jj,j6,j2⟩
  simp only at js jj j6 j2
  have qB:(b.drop a.toNat).length=b.length-a.toNat:=length_drop;have jR:=Q3o out;have pb:out.length<=1000000000:=by omega
  obtain⟨u,hu⟩:=exq (uAt big b a.toNat);obtain⟨v,hv⟩:=exq (uAt big b (a+2).toNat);have hcs:QqJ big b I (out,a)=QpA u v I:=by rw[hu,hv];rfl
  rw[hcs];clear hcs;have qG:n<=1000000000:=by have:=hn.eq;omega
  match hr:b.drop a.toNat with
  | [] =>
   rw[hr,length_nil]at qB;have hna:a=n:=by have:=hn.eq;omega
   have yr:out=Q1n big 0 b:=by rw[<-j6,hr,Q1n,dif_pos rfl,List.append_nil]
   have jB:¬a<n:=by omega
   clear jW qB hu hv j6 j2 hna;with_reducible refine cv2 (Q4 b) (QM out) ?_
   have jC:(((Q4 b).length:Nat):Int)=n:=by have:=hn.eq;have:=Q1c b;omega
   with_reducible repeat' first|refine aU (zA jC jB) ?_|refine And.intro ?_ ?_|intro hb
   rw[if_pos trivial];with_reducible refine cv2 (Q4 b) (QM out) ?_
   exact .pure rfl (.inl (by rw[yr]))
  | [x] =>
   rw[hr,List.length_singleton]at qB;have hna:a+1=n:=by have:=hn.eq;omega
   have jB:a<n:=by omega
   have yr:Q1n big 0 b=out++[⟨-1,a,1⟩]:=by
    rw[<-j6,hr,Q1n,dif_neg (by simp),show([x].drop (Q1d big [x]).2.toNat)=[] from rfl,Q1n,dif_pos rfl];rfl
   rw[yr,Q1B,Q1A];have hoL1:out.length+1<=1000000000:=by omega
   clear jW qB hu hv j6 j2 yr;with_reducible refine cv2 (Q4 b) (QM out) ?_
   have jC:(((Q4 b).length:Nat):Int)=n:=by have:=hn.eq;have:=Q1c b;omega
   with_reducible repeat' first|refine aU (zA jC <| zA jB <| zA hna <| zA jR js) ?_|refine And.intro ?_ ?_|intro hb
   all_goals
    with_reducible refine cv2 (Q4 b) (QM out) ?_
    exact .pure rfl (.inl rfl)
  |x::y::r =>
   have jG:=QjP js x y r hr hu hv
   have hU:BCall prog 112 [.slc 1 (std.cut (Q4 b) a (a+2)),.val (.bool big)] [] (.val (.int .i64 u)) []:=by
    rw[Qor js hr,hu,Qdb hr];exact Qhf big x y
   have vo:a+3<b.length->BCall prog 112 [.slc 1 (std.cut (Q4 b) (a+2) (a+4)),.val (.bool big)] [] (.val (.int .i64 v)) []:=fun hL=>by
    have hl:(b.length:Int)=a+2+r.length:=by
     have:=congrArg List.length hr
     rw[length_drop]at this;simp only[length_cons]at this;omega
    match r,hr,hl with
    | [],hr,hl=>simp only[length_nil]at hl;omega
    | [z],hr,hl=>simp only[List.length_singleton]at hl;omega
    |x2::y2::r',hr,hl =>
     have hd:b.drop (a+2).toNat=x2::y2::r':=by
      rw[show(a+2).toNat=a.toNat+2 by omega,<-drop_drop,hr];rfl
     rw[QlF js hr,hv,Qdb hd];exact Qhf big x2 y2
   have cY:0<=u/\u<65536:=by rw[hu];exact Q2Z _ _ _
   have pL:0<=v/\v<65536:=by rw[hv];exact Q2Z _ _ _
   rw[hr]at j6 qB;simp only[length_cons]at qB;have jB:a<n:=by have:=hn.eq;omega
   have vE:¬a+1=n:=by have:=hn.eq;omega
   have yg:a+2<=n:=by have:=hn.eq;omega
   have wu:IntKind.wrap .i32 u=u:=Q5p u (by omega) (by omega)
   have next:∀R N:Int,Q1d big (x::y::r)=(R,N)->0<=a+N/\(a+N).toNat<=b.length/\out++[⟨R,a,N⟩]++Q1n big (a+N) (b.drop (a+N).toNat)=Q1n big 0 b/\(out++[(⟨R,a,N⟩:Itm)]).length<=(a+N).toNat/\b.length-(a+N).toNat<b.length-a.toNat:=fun R N h9=>Q2I js jj (by rw[hr];exact j6) j2 hr (by simp) h9
   have hoL1:out.length+1<=1000000000:=by omega
   clear hu hv j6 qB jW;by_cases s1:55296<=u/\u<57344
   ·have f1:I u 55296 57343=true:=by rw[xl];simp;omega
    by_cases s2:u<56320
    ·have f2:I u 55296 56319=true:=by rw[xl];simp;omega
     by_cases hL:a+3<n
     ·have hLb:a+3<b.length:=by have:=hn.eq;omega
      have vo:=vo hLb;by_cases s3:56320<=v/\v<57344
      ·have f3:I v 56320 57343=true:=by rw[xl];simp;omega
       have hq:Q1d big (x::y::r)=(65536+(u-55296) * 1024+(v-56320),4):=by
        rw[jG,if_pos ⟨⟨s1.1,s2⟩,hLb,s3⟩]
       have jM:=next _ _ hq
       have kG:a+4<=n:=by omega
       obtain⟨P,hP⟩:=exq (65536+(u-55296) * 1024+(v-56320));have eP:65536+1024 * (u-55296)+v-56320=P:=by omega
       have wP:IntKind.wrap .i32 (65536+1024 * (u-55296)+v-56320)=P:=by rw[eP];exact Q5p P (by omega) (by omega)
       rw[<-hP]at jM;clear next jG hq hP
       with_reducible refine cv2 (Q4 b) (QM out) ?_
       have jC:(((Q4 b).length:Nat):Int)=n:=by have:=hn.eq;have:=Q1c b;omega
       with_reducible repeat' first|refine aU (zA jC <| zA jB <| zA vE <| zA yg <| zA jR <| zA js <| zA wu <| zA f1 <| zA f2 <| zA f3 <| zA hL <| zA kG wP) ?_|refine And.intro ?_ ?_|intro hb
       all_goals first
        |exact hU
        |exact vo
        |exact cI _ _ _
        |(refine⟨(out++[⟨P,a,4⟩],a+4),⟨jM.1,jM.2.1,jM.2.2.1,jM.2.2.2.1⟩,jM.2.2.2.2,[some 0],_,rfl,?_⟩;simp[Qm,lk,std,AV.cells,RowKit.intOf,Q1B,Q1A,wu,f1,f2,f3,hL,kG,wP])
      ·have f3:I v 56320 57343=false:=by rw[xl];simp;omega
       have hq:Q1d big (x::y::r)=(-1,2):=by
        rw[jG,if_neg (fun e=>s3 e.2.2),if_pos s1]
       have jM:=next _ _ hq
       have kG:a+4<=n:=by omega
       clear next jG hq
       with_reducible refine cv2 (Q4 b) (QM out) ?_
       have jC:(((Q4 b).length:Nat):Int)=n:=by have:=hn.eq;have:=Q1c b;omega
       with_reducible repeat' first|refine aU (zA jC <| zA jB <| zA vE <| zA yg <| zA jR <| zA js <| zA wu <| zA f1 <| zA f2 <| zA f3 <| zA hL kG) ?_|refine And.intro ?_ ?_|intro hb
       all_goals first
        |exact hU
        |exact vo
        |exact cI _ _ _
        |(refine⟨(out++[⟨-1,a,2⟩],a+2),⟨jM.1,jM.2.1,jM.2.2.1,jM.2.2.2.1⟩,jM.2.2.2.2,[some 0],_,rfl,?_⟩;simp[Qm,lk,std,AV.cells,RowKit.intOf,Q1B,Q1A,wu,f1,f2,f3,hL,kG])
     ·have hLb:¬a+3<b.length:=by have:=hn.eq;omega
      have hq:Q1d big (x::y::r)=(-1,2):=by
       rw[jG,if_neg (fun e=>hLb e.2.1),if_pos s1]
      have jM:=next _ _ hq
      clear next jG hq
      with_reducible refine cv2 (Q4 b) (QM out) ?_
      have jC:(((Q4 b).length:Nat):Int)=n:=by have:=hn.eq;have:=Q1c b;omega
      with_reducible repeat' first|refine aU (zA jC <| zA jB <| zA vE <| zA yg <| zA jR <| zA js <| zA wu <| zA f1 <| zA f2 hL) ?_|refine And.intro ?_ ?_|intro hb
      all_goals first
       |exact hU
       |exact vo
       |exact cI _ _ _
       |(refine⟨(out++[⟨-1,a,2⟩],a+2),⟨jM.1,jM.2.1,jM.2.2.1,jM.2.2.2.1⟩,jM.2.2.2.2,[some 0],_,rfl,?_⟩;simp[Qm,lk,std,AV.cells,RowKit.intOf,Q1B,Q1A,wu,f1,f2,hL])
    ·have f2:I u 55296 56319=false:=by rw[xl];simp;omega
     have hq:Q1d big (x::y::r)=(-1,2):=by
      rw[jG,if_neg (fun e=>s2 e.1.2),if_pos s1]
     have jM:=next _ _ hq
     clear next jG hq
     with_reducible refine cv2 (Q4 b) (QM out) ?_
     have jC:(((Q4 b).length:Nat):Int)=n:=by have:=hn.eq;have:=Q1c b;omega
     with_reducible repeat' first|refine aU (zA jC <| zA jB <| zA vE <| zA yg <| zA jR <| zA js <| zA wu <| zA f1 f2) ?_|refine And.intro ?_ ?_|intro hb
     all_goals first
      |exact hU
      |exact vo
      |exact cI _ _ _
      |(refine⟨(out++[⟨-1,a,2⟩],a+2),⟨jM.1,jM.2.1,jM.2.2.1,jM.2.2.2.1⟩,jM.2.2.2.2,[some 0],_,rfl,?_⟩;simp[Qm,lk,std,AV.cells,RowKit.intOf,Q1B,Q1A,wu,f1,f2])
   ·have f1:I u 55296 57343=false:=by rw[xl];simp;omega
    have f2:I u 55296 56319=false:=by rw[xl];simp;omega
    have hq:Q1d big (x::y::r)=(u,2):=by
     rw[jG,if_neg (fun e=>s1 ⟨e.1.1,by omega⟩),if_neg s1]
    have jM:=next _ _ hq
    clear next jG hq
    with_reducible refine cv2 (Q4 b) (QM out) ?_
    have jC:(((Q4 b).length:Nat):Int)=n:=by have:=hn.eq;have:=Q1c b;omega
    with_reducible repeat' first|refine aU (zA jC <| zA jB <| zA vE <| zA yg <| zA jR <| zA js <| zA wu <| zA f1 f2) ?_|refine And.intro ?_ ?_|intro hb
    all_goals first
     |exact hU
     |exact vo
     |exact cI _ _ _
     |(refine⟨(out++[⟨u,a,2⟩],a+2),⟨jM.1,jM.2.1,jM.2.2.1,jM.2.2.2.1⟩,jM.2.2.2.2,[some 0],_,rfl,?_⟩;simp[Qm,lk,std,AV.cells,RowKit.intOf,Q1B,Q1A,wu,f1,f2])
