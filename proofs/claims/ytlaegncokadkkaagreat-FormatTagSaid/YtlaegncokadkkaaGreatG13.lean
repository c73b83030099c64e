/- Lemmas, conditions told -/
import Derived.Test.YtlaegncokadkkaaGreatG11
import Derived.Test.YtlaegncokadkkaaGreatG10
import Derived.Shelf.Bits.Mul64
import Derived.Laws.MakeOwn
import Derived.Laws.CopyOwn
import Derived.Deep.RegionLaw
set_option maxRecDepth 99999
set_option maxHeartbeats 0
set_option linter.unusedSimpArgs false
set_option linter.unusedVariables false
namespace Go.Proofs.YtlaegncokadkkaaGreat
open List(getElem?_map getElem?_eq_getElem map_cons flatMap_cons map_append length_map mem_cons mem_map map_drop length_drop map_take length_replicate)
open Lib(hid)
open Nat(le_refl)
section
open Go.RowKit Go.Lib Tryz
section
variable {w w':World}{A':Nat->Nat->Prop}
theorem Q4h{us:List Value}(h:∀u∈us,u.oneCell'=true):Alike w A' us (us.map .val):=by
 refine⟨by simp,fun j y u hy hu=>?_⟩
 rw[getElem?_map,hy]at hu;obtain rfl:AV.val y=u:=by simpa using hu
 exact PRel.val _ (h y (List.mem_of_getElem? hy))
theorem Q7r{base e sz n:Nat}{v:Value}{ys:List Value}{xs:List AV}(h:w'.ownsRow base e sz v n ys)(j6:0<sz)(jT:Alike w' A' ys (Qp xs))(hn:n=xs.length)(hw:∀x∈xs,x.cells.length=sz)
  (hA:∀b o,base<=b->b<w'.heap.size->A' b o):PRel w' A' v (.slc sz xs):=by
 obtain⟨A,c,rfl,hr⟩:=Q14 h;refine Qkw (S:=fun b=>base<=b/\b<w'.heap.size) ⟨hr.len,hr.le,hr.max,hr.nil,fun hp=>?_⟩ (fun b o hb=>hA b o hb.1 hb.2) hn hw (fun a ha=>?_) jT
 ·obtain⟨b,o,h1,h2,h3⟩:=hr.at_ hp
  have jC:0<ys.length:=by rw[hr.len];exact Nat.mul_pos hp j6
  have:=h3 0 ys[0] (getElem?_eq_getElem jC)
  exact⟨b,o,h1,⟨h2,World.block_lt_of_cell? w' _ this⟩,h3⟩
 ·rcases h.2 with ⟨h1,_⟩|⟨b,cap,cur,h1,_⟩
  ·cases h1;cases ha
  ·cases h1;cases ha;exact⟨b,0,rfl⟩
end
def Qjd(x:Int×Nat×Nat):Itm:=⟨x.1,x.2.1,x.2.2⟩
def Q6N(b:List UInt8):List Itm:=(Q1P b).map Qjd
theorem Qfk(l:List (Int×Nat×Nat)):Qp (Q1H (l.map Qjd))=(QB l).map .val:=by
 induction l with
 |nil=>rfl
 |cons x r ih=>simp only[Q1H,map_cons,Qp,flatMap_cons,QB,map_append]at ih ⊢;rw[ih];rfl
theorem Qmf(b:List UInt8)(hb:b.length<=100000000):BCall prog 143 [.slc 1 (Q5 b)] [] (.slc 3 (Q1H (Q6N b))) []:=by
 refine BCall.hand (enters_of func143 (by kernel_rfl) rfl) fun w g vs M hL=>?_
 obtain⟨v1,vs1,rfl,h1,hL⟩:=Qt hL;obtain rfl:=Q1i hL;obtain⟨A,c,rfl,hr⟩:=Qjz h1 M;refine(Qbf _ A _ c b w hr (by omega)).mono fun e w' ⟨v,h,⟨n',ho⟩,qv⟩=>⟨v,h,qv,?_⟩
 have hn:n'=(Q1H (Q6N b)).length:=by
  have:=ho.1
  rw[Q2a]at this;rw[Q5y,Q6N,length_map];omega
 refine Q7r (A':=(g.imm w w').A) ho (by decide) ?_ hn (fun x hx=>?_) (fun b o h1 h2=>.inr ⟨h1,h2⟩)
 ·rw[Q6N,Qfk]
  refine Q4h fun u hu=>?_
  obtain⟨x,_,hx⟩:=List.mem_flatMap.1 hu;simp only[mem_cons,List.not_mem_nil,or_false]at hx;rcases hx with rfl|rfl|rfl<;>rfl
 ·obtain⟨y,_,rfl⟩:=mem_map.1 hx
  rfl
def Q9Z(kind:Int)(b:List UInt8):List Itm:=if kind=0 then Q6N b else if kind=1 then Q2V true 0 b else if kind=2 then Q2V false 0 b else []
def QoK(f8:List AV->List AV)(fw:Bool->List AV->List AV):Nat->List AV->List Ob->Option (AV×List Ob):=fun f args _=>match f,args with
 |143,[.slc 1 xs]=>some (.slc 3 (f8 xs),[])
 |144,[.slc 1 xs,.val (.bool b)]=>some (.slc 3 (fw b xs),[])
 |_,_=>none
def f8A(xs:List AV):List AV:=Q1H (Q6N (xs.map Q2K))
def fwA(big:Bool)(xs:List AV):List AV:=Q1H (Q2V big 0 (xs.map Q2K))
theorem QiX(kind:Int)(b:List UInt8)(hb:b.length<=100000000):BCall prog 98 [.val (.int .i64 kind),.slc 1 (Q5 b)] [] (.slc 3 (Q1H (Q9Z kind b))) []:=by
 have hf8:f8A (Q5 b)=Q1H (Q6N b):=by rw[f8A,Q2Q]
 have hfw:∀big,fwA big (Q5 b)=Q1H (Q2V big 0 b):=fun big=>by rw[fwA,Q2Q]
 have c8:BCall prog 143 [.slc 1 (Q5 b)] [] (.slc 3 (f8A (Q5 b))) []:=by rw[hf8];exact Qmf b hb
 have cw:∀big,BCall prog 144 [.slc 1 (Q5 b),.val (.bool big)] [] (.slc 3 (fwA big (Q5 b))) []:=fun big=>by rw[hfw];exact Qju big b (by omega)
 refine fnN (QoK f8A fwA) func98 rfl fun _ _=>?_
 with_reducible refine cv3 f8A fwA (Q5 b) ?_
 refine⟨fun h=>⟨c8,.pure rfl (.inl ?_)⟩,fun h=>⟨fun h1=>⟨cw _,.pure rfl (.inl ?_)⟩,fun h1=>⟨fun h2=>⟨cw _,.pure rfl (.inl ?_)⟩,fun h2=>.pure rfl (.inr (.inl ⟨rfl,3,?_⟩))⟩⟩⟩
 ·have h:kind=0:=by simpa[std]using h
  rw[Q9Z,if_pos h,hf8]
 ·have h:¬kind=0:=by simpa[std]using h
  have vl:kind=1:=by simpa[std]using h1
  have h1:std.eqI kind 1=true:=h1;show AV.slc 3 (fwA (std.eqI kind 1) (Q5 b))=_;rw[Q9Z,if_neg h,if_pos vl,h1,hfw]
 ·have h:¬kind=0:=by simpa[std]using h
  have vl:¬kind=1:=by simpa[std]using h1
  have h2:kind=2:=by simpa[std]using h2
  have h1:std.eqI kind 1=false:=h1;show AV.slc 3 (fwA (std.eqI kind 1) (Q5 b))=_;rw[Q9Z,if_neg h,if_neg vl,if_pos h2,h1,hfw]
 ·have h:¬kind=0:=by simpa[std]using h
  have h1:¬kind=1:=by simpa[std]using h1
  have h2:¬kind=2:=by simpa[std]using h2
  rw[Q9Z,if_neg h,if_neg h1,if_neg h2];rfl
structure Txt where
 kind:Int
 bom:Int
 r:List Int
 off:List Int
 deriving Inhabited
def Txt.cs(t:Txt):List AV:=[.val (.int .i64 t.kind),.val (.int .i64 t.bom),.slc 1 (Q0 t.r),.slc 1 (Qh t.off)]
def Q3O(b:List UInt8):List Itm:=Q9Z (Q18 b).1 (b.drop (Q18 b).2.toNat)
def Q2f(b:List UInt8):Txt:=⟨(Q18 b).1,(Q18 b).2,(Q3O b).map Itm.r,(Q3O b).map (fun x=>x.off+(Q18 b).2)++[(b.length:Int)]⟩
theorem Q5P(b:List UInt8):0<=(Q18 b).2/\(Q18 b).2<=b.length:=by
 have key:∀(x:List UInt8×Int×Int),x∈signsL->x.1.isPrefixOf b=true->0<=x.2.2/\x.2.2<=b.length:=by
  intro x hx hp;have:=(List.isPrefixOf_iff_prefix.1 hp).length_le
  simp only[signsL,mem_cons,List.not_mem_nil,or_false]at hx;rcases hx with rfl|rfl|rfl|rfl|rfl<;>simp at this ⊢<;>omega
 unfold Q18 kR;split
 ·rename_i x hx
  have h1:=List.find?_some hx;have h2:=List.mem_of_find?_eq_some hx;exact key x (by simpa using h2) h1
 ·simp only;omega
def csD(k bom:Int)(pc:Int->List AV->List AV):Nat->List AV->List Ob->Option (AV×List Ob):=fun f args _=>match f,args with
 |97,_=>some (.tup [.val (.int .i64 k),.val (.int .i64 bom)],[])
 |98,[.val (.int .i64 k),.slc 1 xs]=>some (.slc 3 (pc k xs),[])
 |_,_=>none
def pcA(k:Int)(xs:List AV):List AV:=Q1H (Q9Z k (xs.map Q2K))
theorem QiS(b:List UInt8)(hb:b.length<=1000000)(qD:(Q3O b).length<=1000000)(qr:∀x∈Q3O b,0<=x.off/\x.off<=1000000) :
  BCall prog 61 [.slc 1 (Q5 b)] [] (.agg (Q2f b).cs) []:=by
 have g9:=Q5P b;have cK:=QkW b;obtain⟨k,hk⟩:=exq ((Q18 b).1);obtain⟨bom,zd⟩:=exq ((Q18 b).2);obtain⟨ps,ga⟩:=exq (Q3O b);have hT:Q2f b=⟨k,bom,ps.map Itm.r,ps.map (fun x=>x.off+bom)++[(b.length:Int)]⟩:=by rw[hk,zd,ga];rfl
 have hpb:ps=Q9Z k (b.drop bom.toNat):=by rw[hk,zd,ga];rfl
 rw[hT];rw[<-ga]at qD qr;rw[<-hk,<-zd]at cK;rw[<-zd]at g9;clear hT hk zd ga
 have jH:std.cut (Q5 b) bom (std.len (Q5 b))=Q5 (b.drop bom.toNat):=by
  show((Q5 b).drop bom.toNat).take ((Q5 b).length-bom:Int).toNat=_
  rw[Q5,Q5,map_drop,List.take_of_length_le (by simp;omega)]
 have hpc:pcA k (std.cut (Q5 b) bom (std.len (Q5 b)))=Q1H ps:=by rw[jH,pcA,Q2Q,hpb]
 have cP:BCall prog 98 [.val (.int .i64 k),.slc 1 (std.cut (Q5 b) bom (std.len (Q5 b)))] [] (.slc 3 (pcA k (std.cut (Q5 b) bom (std.len (Q5 b))))) []:=by
  rw[hpc,jH,hpb];exact QiX k _ (by rw[length_drop];omega)
 obtain⟨nb,zM⟩:=QC b;obtain⟨n,hn⟩:=QC ps;have hbn:bom<=nb:=by rw[zM.eq];exact g9.2
 have pv:=g9.1;clear g9;refine fnO false (csD k bom pcA) (fun id=>match id with|3=>.of [0,1,2,3,4,5,8,6,7]|_=>.nil) func61 rfl fun _ _=>?_
 with_reducible refine cv2 pcA (Q5 b) ?_
 have enb:=zM.eq;have en:=hn.eq;have jV:=Q2W b;refine⟨cK,?_,cP,?_⟩
 ·simp only[std,jV];omega
 have qi:std.len (pcA k (std.cut (Q5 b) bom (std.len (Q5 b))))=n:=by rw[hpc];simp only[std,Q5y];omega
 refine Q1p (csD k bom pcA) (Int) (fun i=>⟨[(0,.slc 1 (Q5 b)),(2,.box 0 0),(3,.box 1 0),(20,.slc 3 (Q1H ps)),(21,.val (.int .i64 n)),(22,.val (.int .i64 i))],[.box [.val (.int .i64 0),.val (.int .i64 0),.val (.slice none 0 0),.val (.slice none 0 0)],.box [.val (.int .i64 k),.val (.int .i64 bom),.row 2 0,.row 3 0],.row 21 1 false 0 (Q0 ((ps.take i.toNat).map Itm.r)),.row 3 1 false 0 (Qh ((ps.take i.toNat).map fun x=>x.off+bom))]⟩) (fun i=>0<=i/\i<=n) (fun i=>(n-i).toNat) 0 ?_ ?_ ?_
 ·omega
 ·refine⟨[some 0,some 1,none,none],_,rfl,?_⟩
  simp only[Int.toNat_zero,List.take_zero,List.map_nil]
  repeat first
   |exact trivial
   |refine⟨gA hpc,?_⟩
   |refine⟨gI qi,?_⟩
   |refine⟨rfl,?_⟩
 ·rintro i ⟨qz,je⟩
  have yd:=Q5y ps;rcases Int.lt_or_eq_of_le je with jE|jj
  ·have jW:(Q1H ps)[i.toNat]?.getD .dead=(ps[i.toNat]?.getD ⟨0,0,0⟩).av:=QjU Itm.av qz (by omega) ⟨0,0,0⟩
   have xm:i.toNat<ps.length:=by omega
   have hx:=qr (ps[i.toNat]?.getD ⟨0,0,0⟩) (by simp[xm])
   have ht:ps.take (i+1).toNat=ps.take i.toNat++[ps[i.toNat]?.getD ⟨0,0,0⟩]:=by
    rw[show(i+1).toNat=i.toNat+1 by omega,List.take_add_one]
    simp[xm]
   have zU:Q0 ((ps.take (i+1).toNat).map Itm.r)=Q0 ((ps.take i.toNat).map Itm.r)++[.val (.int .i32 (ps[i.toNat]?.getD ⟨0,0,0⟩).r)]:=by
    rw[ht,map_append,Qy];rfl
   have vS:Qh ((ps.take (i+1).toNat).map fun x=>x.off+bom)=Qh ((ps.take i.toNat).map fun x=>x.off+bom)++[.val (.int .i64 ((ps[i.toNat]?.getD ⟨0,0,0⟩).off+bom))]:=by
    rw[ht,map_append,Q7i];rfl
   have vu:(Q0 ((ps.take i.toNat).map Itm.r)).length<=1000000:=by simp[Q0];omega
   have gQ:(Qh ((ps.take i.toNat).map fun x=>x.off+bom)).length<=1000000:=by simp[Qh];omega
   obtain⟨x,hxE⟩:=exq (ps[i.toNat]?.getD ⟨0,0,0⟩);rw[<-hxE]at jW hx zU vS;obtain⟨R,hR⟩:=exq (Q0 ((ps.take i.toNat).map Itm.r));obtain⟨O,hO⟩:=exq (Qh ((ps.take i.toNat).map fun x=>x.off+bom))
   rw[<-hR]at zU vu ⊢;rw[<-hO]at vS gQ ⊢;clear en enb ht;with_reducible refine cv3 pcA (Q5 b) (Q1H ps) ?_
   have en:=hn.eq;have enb:=zM.eq
   repeat' first
    |(with_reducible refine And.intro (fun hx=>absurd hx (by first|(try simp[std,S1,jW,Itm.av,yd,jE,qz])<;>omega|omega)) (fun _=>?_))
    |(with_reducible refine And.intro (fun _=>?_) (fun hx=>absurd hx (by first|(try simp[std,S1,jW,Itm.av,yd,jE,qz])<;>omega|omega)))
    |(with_reducible refine And.intro (by first|(try simp[std,S1,jW,Itm.av,yd,jE,qz])<;>omega|omega) ?_)
    |(with_reducible refine And.intro ?_ ?_)
    |(with_reducible intro hb)
   exact⟨i+1,⟨by omega,by omega⟩,by omega,[some 0,some 1,some 2,some 3],_,rfl,by simp[-map_take,Qf,lk,std,jW,yd,Itm.av,AV.cells,intOf,zU,vS]⟩
  ·have ht:ps.take i.toNat=ps:=List.take_of_length_le (by omega)
   rw[ht];have gQ:(Qh (ps.map fun x=>x.off+bom)).length<=1000000:=by simp[Qh];omega
   have hf:Qh (ps.map (fun x=>x.off+bom)++[(b.length:Int)])=Qh (ps.map fun x=>x.off+bom)++[.val (.int .i64 nb)]:=by
    rw[Q7i,zM.eq];rfl
   have hlb:std.len (Q5 b)=nb:=by rw[enb];simp only[std,jV]
   obtain⟨R,hR⟩:=exq (Q0 (ps.map Itm.r));obtain⟨O,hO⟩:=exq (Qh (ps.map fun x=>x.off+bom))
   rw[<-hO]at gQ hf
   have hcs:(Txt.mk k bom (ps.map Itm.r) (ps.map (fun x=>x.off+bom)++[(b.length:Int)])).cs=[.val (.int .i64 k),.val (.int .i64 bom),.slc 1 R,.slc 1 (O++[.val (.int .i64 nb)])]:=by
    rw[Txt.cs,hf,hR]
   rw[hcs,<-hR,<-hO];clear en enb ht hcs;with_reducible refine cv3 pcA (Q5 b) (Q1H ps) ?_
   with_reducible repeat' first|refine aU jj ?_|refine And.intro ?_ ?_|intro hb
   rw[if_pos trivial];with_reducible refine cv3 pcA (Q5 b) (Q1H ps) ?_
   refine⟨?_,.pure rfl ?_⟩
   ·simp[std];omega
   ·refine⟨.inl rfl,.inl rfl,.inl rfl,.inl ?_,trivial⟩
    show AV.slc 1 (std.app O [.val (.int .i64 (std.len (Q5 b)))])=_;rw[hlb];rfl
theorem QoF(t:Txt)(a b:Int)(h0:0<=a)(h1:a<=b)(h2:b<=t.r.length):BCall prog 153 [.agg t.cs,.val (.int .i64 a),.val (.int .i64 b)] [] (.val (.bool true)) []:=by
 obtain⟨n,hn⟩:=QC t.r;have kx:b<=n:=by rw[hn.eq];exact h2
 clear h2;unfold Txt.cs;obtain⟨k,hk⟩:=exq t.kind;obtain⟨m,hm⟩:=exq t.bom;obtain⟨R,hR⟩:=exq (Q0 t.r);obtain⟨O,hO⟩:=exq (Qh t.off);have hRl:R.length=t.r.length:=by rw[hR,Q6]
 rw[<-hk,<-hm,<-hR,<-hO];refine fnN (cs0) func153 rfl fun _ _=>?_
 with_reducible refine cv0 ?_
 have en:=hn.eq;have hRn:((R.length:Nat):Int)=n:=by omega
 with_reducible repeat' first|refine aU (zA hRn <| zA h0 <| zA h1 kx) ?_|refine zA ?_ ?_|intro hb
 refine .pure rfl (.inl ?_);have:std.leI b (std.len R)=true:=by simp only[std,hRn];exact decide_eq_true kx
 show AV.val (.bool (std.leI b (std.len R)))=_;rw[this]
def QoP:Nat->List AV->List Ob->Option (AV×List Ob):=fun f args _=>match f,args with
 |153,_=>some (.val (.bool true),[])
 |45,[.slc 1 xs]=>some (.slc 1 xs,[])
 |_,_=>none
structure TxtOk (t:Txt) (b:List UInt8):Prop where
 len:t.off.length=t.r.length+1
 range:∀x∈t.off,0<=x/\x<=b.length
 last:t.off[t.r.length]?.getD 0=b.length
 mono:∀i j:Nat,i<=j->j<=t.r.length->t.off[i]?.getD 0<=t.off[j]?.getD 0
def Q1r(t:Txt)(b:List UInt8)(i j:Int):List UInt8:=(b.drop (t.off[i.toNat]?.getD 0).toNat).take ((t.off[j.toNat]?.getD 0)-(t.off[i.toNat]?.getD 0)).toNat
theorem Ql2(t:Txt)(bs:List UInt8)(xn:bs.length<=1000000)(ok:TxtOk t bs)(qI:t.r.length<=1000000)(i j:Int)(h0:0<=i)(h1:i<=j)(h2:j<=t.r.length) :
  BCall prog 196 [.agg t.cs,.slc 1 (Q5 bs),.val (.int .i64 i),.val (.int .i64 j)] [] (.slc 1 (Q5 (Q1r t bs i j))) []:=by
 have cI:=QoF t i j h0 h1 h2;obtain⟨lo,yl⟩:=exq (t.off[i.toNat]?.getD 0);obtain⟨hi,yM⟩:=exq (t.off[j.toNat]?.getD 0);have jP:=ok.len;have olen:=Q5C t.off;have alo:=Q4w (l:=t.off) (i:=i) h0 (by omega)
 have ahi:=Q4w (l:=t.off) (i:=j) (by omega) (by omega)
 have ala:=Q4w (l:=t.off) (i:=(t.r.length:Int)) (by omega) (by omega)
 rw[Int.toNat_natCast,ok.last]at ala;rw[<-yl]at alo;rw[<-yM]at ahi;have jF:lo<=hi:=by rw[yl,yM];exact ok.mono _ _ (by omega) (by omega)
 have hlo0:0<=lo:=by
  have h3:i.toNat<t.off.length:=by omega
  have:=ok.range (t.off[i.toNat]'h3) (List.getElem_mem h3)
  rw[yl,getElem?_eq_getElem h3];exact this.1
 obtain⟨nb,zM⟩:=QC bs
 have hhin:hi<=nb:=by
  have h3:j.toNat<t.off.length:=by omega
  have:=ok.range (t.off[j.toNat]'h3) (List.getElem_mem h3)
  rw[yM,zM.eq,getElem?_eq_getElem h3];exact this.2
 have jH:std.cut (Q5 bs) lo hi=Q5 (Q1r t bs i j):=by
  show((Q5 bs).drop lo.toNat).take (hi-lo).toNat=_
  rw[Q1r,<-yl,<-yM,Q5,Q5,map_take,map_drop]
 obtain⟨nr,hnr⟩:=QC t.r;have hjn:j<=nr:=by rw[hnr.eq];exact h2
 have cC:BCall prog 45 [.slc 1 (std.cut (Q5 bs) lo hi)] [] (.slc 1 (std.cut (Q5 bs) lo hi)) []:=QdG _ (by rw[jH,Q2W,Q1r,List.length_take,length_drop];omega)
 rw[<-jH];clear jH ok yl yM h2;unfold Txt.cs at cI ⊢;obtain⟨k,hk⟩:=exq t.kind;obtain⟨m,hm⟩:=exq t.bom;obtain⟨R,hR⟩:=exq (Q0 t.r);obtain⟨O,hO⟩:=exq (Qh t.off);rw[<-hk,<-hm,<-hR,<-hO]at cI ⊢;rw[<-hO]at alo ahi ala olen;refine fnN (QoP) func196 rfl fun _ _=>?_
 with_reducible refine cv1 (Q5 bs) ?_
 have enb:=zM.eq;have enr:=hnr.eq;have jV:=Q2W bs;have hON:((O.length:Nat):Int)=nr+1:=by omega
 have hON2:((O.length:Nat):Int)-1=nr:=by omega
 have ala:O[nr.toNat]?.getD .dead=.val (.int .i64 nb):=by rw[show nr.toNat=t.r.length by omega,enb];exact ala
 have hbn:(((Q5 bs).length:Nat):Int)=nb:=by omega
 have pS:std.int (std.nth (std.cel (std.at_ O i)) 0)=lo:=by simp[std,alo,AV.cells,intOf]
 have hh':std.int (std.nth (std.cel (std.at_ O j)) 0)=hi:=by simp[std,ahi,AV.cells,intOf]
 with_reducible repeat' first|refine aU (zA cI <| zA alo <| zA ahi <| zA ala <| zA hON <| zA hON2 <| zA hbn <| zA hlo0 <| zA jF hhin) ?_|refine zA ?_ ?_|intro hb
 ·show BCall _ _ [.slc 1 (std.cut (Q5 bs) (std.int (std.nth (std.cel (std.at_ O i)) 0)) (std.int (std.nth (std.cel (std.at_ O j)) 0)))] [] (.slc 1 (std.cut (Q5 bs) (std.int (std.nth (std.cel (std.at_ O i)) 0)) (std.int (std.nth (std.cel (std.at_ O j)) 0)))) []
  rw[pS,hh'];exact cC
 ·refine .pure rfl (.inl ?_)
  show AV.slc 1 (std.cut (Q5 bs) (std.int (std.nth (std.cel (std.at_ O i)) 0)) (std.int (std.nth (std.cel (std.at_ O j)) 0)))=_;rw[pS,hh']
theorem QkO(x y:List Int)(hx:x.length<=1000000000)(hy:y.length<=1000000000):BCall prog 195 [.slc 1 (Q0 x),.slc 1 (Q0 y)] [] (.val (.bool (decide (x=y)))) []:=by
 obtain⟨n,hn⟩:=QC x;obtain⟨m,hm⟩:=QC y;obtain⟨e,he⟩:=exq (decide (x=y));rw[<-he];have qt:=Q6 x;have n7:=Q6 y;refine fnN (cs0) func195 rfl fun _ _=>?_
 with_reducible refine cv2 (Q0 x) (Q0 y) ?_
 have en:=hn.eq;have em:=hm.eq;have jJ:(((Q0 x).length:Nat):Int)=n:=by omega
 have gZ:(((Q0 y).length:Nat):Int)=m:=by omega
 refine⟨fun h=>?_,fun h=>?_⟩
 ·have h:¬n=m:=by simpa[std,jJ,gZ]using h
  refine .pure rfl (.inl ?_);rw[he,decide_eq_false (fun h2=>h (by rw[en,em,h2]))]
 ·have h:n=m:=by simpa[std,jJ,gZ]using h
  refine Q1p (cs0) (Int) (fun i=>⟨[(0,.slc 1 (Q0 x)),(1,.slc 1 (Q0 y)),(12,.val (.int .i64 n)),(13,.val (.int .i64 i))],[]⟩) (fun i=>0<=i/\i<=n/\∀j:Nat,(j:Int)<i->x[j]?.getD 0=y[j]?.getD 0) (fun i=>(n-i).toNat) 0 ?_ ?_ ?_
  ·exact⟨by omega,by omega,fun j hj=>by omega⟩
  ·exact⟨[],_,rfl,by simp[Qf,lk,std,jJ]⟩
  ·rintro i ⟨qz,je,hi⟩
   have gX:∀j:Nat,j<i.toNat->x[j]?.getD 0=y[j]?.getD 0:=fun j hj=>hi j (by omega)
   clear hi;rcases Int.lt_or_eq_of_le je with jE|jj
   ·have ax:=Q25 (l:=x) qz (by omega)
    have ay:=Q25 (l:=y) qz (by omega)
    have hltm:i<m:=by omega
    clear en em h jJ gZ;with_reducible refine cv2 (Q0 x) (Q0 y) ?_
    have en:=hn.eq;have em:=hm.eq;have jJ:(((Q0 x).length:Nat):Int)=n:=by omega
    have gZ:(((Q0 y).length:Nat):Int)=m:=by omega
    with_reducible repeat' first|refine aU (zA ax <| zA ay <| zA jJ <| zA gZ <| zA jE <| zA hltm qz) ?_|refine zA ?_ ?_|intro hb
    ·have jL:¬x[i.toNat]?.getD 0=y[i.toNat]?.getD 0:=by simpa[std,ax,ay,AV.cells,intOf]using hb
     with_reducible refine cv2 (Q0 x) (Q0 y) ?_
     refine .pure rfl (.inl ?_);rw[he,decide_eq_false (fun h2=>jL (by rw[h2]))]
    ·have jj:x[i.toNat]?.getD 0=y[i.toNat]?.getD 0:=by simpa[std,ax,ay,AV.cells,intOf]using hb
     refine⟨i+1,⟨by omega,by omega,fun j hj=>?_⟩,by omega,[],_,rfl,by simp[Qf,lk,std]⟩
     have hj:(j:Int)<i+1:=hj;by_cases qV:j<i.toNat
     ·exact gX j qV
     ·obtain rfl:j=i.toNat:=by omega
      exact jj
   ·have cd:x=y:=by
     refine List.ext_getElem (by omega) fun j h1 h2=>?_
     have:=gX j (by omega)
     rw[getElem?_eq_getElem h1,getElem?_eq_getElem h2]at this;exact this
    clear en em h jJ gZ;with_reducible refine cv2 (Q0 x) (Q0 y) ?_
    with_reducible repeat' first|refine aU jj ?_|refine zA ?_ ?_|intro hb
    rw[if_pos trivial];with_reducible refine cv2 (Q0 x) (Q0 y) ?_
    refine .pure rfl (.inl ?_);rw[he,decide_eq_true cd]
end
section
open Go.RowKit Go.Lib
def Q9C:Int->List Itm->Int->Prop
 |a,[],e=>a=e
 |a,x::r,e=>x.off=a/\1<=x.n/\Q9C (a+x.n) r e
theorem QeZ(big:Bool):∀(n:Nat)(l:List UInt8)(a:Int),l.length<=n->Q9C a (Q2V big a l) (a+l.length):=by
 intro n;induction n with
 |zero =>
  intro l a h;have:l=[]:=List.eq_nil_of_length_eq_zero (by omega)
  subst this;rw[Q2V,dif_pos rfl];show a=_;simp
 |succ n ih =>
  intro l a h;by_cases hl:l=[]
  ·subst hl
   rw[Q2V,dif_pos rfl];show a=_;simp
  ·have hs:=Qc0 big l hl
   rw[Q2V,dif_neg hl];refine⟨rfl,hs.1,?_⟩;have:=ih (l.drop (Q43 big l).2.toNat) (a+(Q43 big l).2) (by rw[length_drop];omega)
   rw[length_drop]at this;rw[show a+(Q43 big l).2+((l.length-(Q43 big l).2.toNat:Nat):Int)=a+l.length by omega]at this
   exact this
theorem QkB(l:List UInt8)(h:l≠[]):1<=(Qn l).2/\(Qn l).2<=l.length:=by
 have hl:0<l.length:=List.length_pos_iff.2 h;unfold Qn;split
 ·exact⟨le_refl _,hl⟩
 ·exact⟨decodeL_width _,decodeL_le _ h⟩
theorem Qdv:∀(n off:Nat)(l:List UInt8),l.length<=n->Q9C off ((Q1m n off l).map Qjd) (off+l.length:Int):=by
 intro n;induction n with
 |zero =>
  intro off l h;have:l=[]:=List.eq_nil_of_length_eq_zero (by omega)
  subst this;show(off:Int)=_
  simp
 |succ n ih =>
  intro off l h;cases l with
  |nil=>show(off:Int)=_;simp
  |cons b t =>
   have hs:=QkB (b::t) (by simp)
   refine⟨rfl,by show(1:Int)<=((Qn (b::t)).2:Int);omega,?_⟩
   have:=ih (off+(Qn (b::t)).2) ((b::t).drop (Qn (b::t)).2) (by rw[length_drop];omega)
   rw[length_drop]at this;rw[show((off+(Qn (b::t)).2:Nat):Int)+(((b::t).length-(Qn (b::t)).2:Nat):Int)=off+(b::t).length by omega,show((off+(Qn (b::t)).2:Nat):Int)=off+(Qn (b::t)).2 by omega]at this
   exact this
theorem QaW:∀(ps:List Itm)(a e:Int),Q9C a ps e->(ps.length:Int)<=e-a/\(∀x∈ps.map Itm.off++[e],a<=x/\x<=e)/\List.Pairwise (·<=·) (ps.map Itm.off++[e])/\(ps.map Itm.off++[e])[0]?=some a
 | [],a,e,h=>by
  have h:a=e:=h;subst h;simp
 |x::r,a,e,h=>by
  obtain⟨h1,h2,h3⟩:=h;obtain⟨h4,h5,h6,h7⟩:=QaW r _ e h3;refine⟨by simp only[List.length_cons];omega,fun y hy=>?_,?_,by simp[h1]⟩
  ·simp only[map_cons,List.cons_append,mem_cons]at hy
   rcases hy with rfl|hy
   ·have:=h5 e (by simp);omega
   ·have:=h5 y hy;omega
  ·simp only[map_cons,List.cons_append]
   exact List.pairwise_cons.2 ⟨fun y hy=>by have:=h5 y hy;omega,h6⟩
theorem Qkf(b:List UInt8):(Q18 b).1=0\/(Q18 b).1=1\/(Q18 b).1=2:=by
 have key:∀(x:List UInt8×Int×Int),x∈signsL->x.2.1=0\/x.2.1=1\/x.2.1=2:=by decide
 unfold Q18 kR;split
 ·rename_i x hx
  exact key x (by simpa using List.mem_of_find?_eq_some hx)
 ·exact .inl rfl
theorem Qec(b:List UInt8):Q9C 0 (Q3O b) (b.length-(Q18 b).2):=by
 have hb:=Q5P b;have hl:(((b.drop (Q18 b).2.toNat).length:Nat):Int)=b.length-(Q18 b).2:=by rw[length_drop];omega
 have h8:=Qdv _ 0 (b.drop (Q18 b).2.toNat) (le_refl _);have hw:=fun big=>QeZ big _ (b.drop (Q18 b).2.toNat) 0 (le_refl _)
 rw[hl,Int.zero_add]at hw;rw[hl,show((0:Nat):Int)=0 from rfl,Int.zero_add]at h8;rw[Q3O];rcases Qkf b with h|h|h
 ·rw[Q9Z,if_pos h];exact h8
 ·rw[Q9Z,if_neg (by omega),if_pos h];exact hw true
 ·rw[Q9Z,if_neg (by omega),if_neg (by omega),if_pos h];exact hw false
theorem Qj4(b:List UInt8):(Q2f b).off=((Q3O b).map Itm.off++[(b.length:Int)-(Q18 b).2]).map (· + (Q18 b).2):=by
 show(Q3O b).map _++[(b.length:Int)]=_
 simp
theorem Q8Z(b:List UInt8):TxtOk (Q2f b) b/\(Q2f b).off[0]?.getD 0=(Q18 b).2/\(Q2f b).r.length<=b.length/\(Q3O b).length<=b.length/\∀x∈Q3O b,0<=x.off/\x.off<=b.length:=by
 have hb:=Q5P b;obtain⟨h1,h2,h3,h4⟩:=QaW _ _ _ (Qec b);have hr:(Q2f b).r.length=(Q3O b).length:=by show((Q3O b).map Itm.r).length=_;simp
 have ho:=Qj4 b;generalize hL:(Q3O b).map Itm.off++[(b.length:Int)-(Q18 b).2]=L at h2 h3 h4 ho;have qK:L.length=(Q3O b).length+1:=by rw[<-hL];simp
 have jo:L[(Q3O b).length]?=some ((b.length:Int)-(Q18 b).2):=by rw[<-hL,List.getElem?_append_right (by simp)];simp
 refine⟨⟨by rw[ho,hr,length_map,qK],fun x hx=>?_,?_,fun i j xO hj=>?_⟩,?_,by omega,by omega,fun x hx=>?_⟩
 ·rw[ho]at hx
  obtain⟨y,hy,rfl⟩:=mem_map.1 hx;have:=h2 y hy;omega
 ·rw[ho,hr,getElem?_map,jo]
  show(b.length:Int)-(Q18 b).2+(Q18 b).2=_
  omega
 ·have gH:i<L.length:=by omega
  have vO:j<L.length:=by omega
  rw[ho,getElem?_map,getElem?_map,getElem?_eq_getElem gH,getElem?_eq_getElem vO];show L[i]+_<=L[j]+_;rcases Nat.lt_or_eq_of_le xO with h|h
  ·have:=List.pairwise_iff_getElem.1 h3 i j gH vO h
   omega
  ·subst h;exact Int.le_refl _
 ·rw[ho,getElem?_map,h4]
  show(0:Int)+_=_
  omega
 ·have:=h2 x.off (by rw[<-hL];exact List.mem_append_left _ (mem_map.2 ⟨x,hx,rfl⟩))
  omega
end
section
open Go.RowKit Go.Lib Tryz
def Q1h(l:List AV):Bool:=l.all fun x=>match x with
 |.val (.int .i32 _)=>true
 |_=>false
theorem Q2h:∀{l:List AV},Q1h l=true->l=Q0 (l.map std.int)
 | [],_=>rfl
 |x::r,h=>by
  unfold Q1h at h;rw[List.all_cons,Bool.and_eq_true]at h;have ih:=Q2h (l:=r) h.2
  have hx:x=.val (.int .i32 (std.int x)):=by
   have h1:=h.1;split at h1
   ·rfl
   ·cases h1
  show x::r=Q5U (std.int x)::Q0 (r.map std.int);rw[<-ih,Q5U,<-hx]
def rwA(x:AV):List Int:=(std.lst x).map std.int
def Q5L:List AV->Bool
 | []=>true
 |x::r=>(match x with
  |.slc 1 l=>Q1h l
  |.val (.slice none 0 0)=>true
  |_=>false)&&Q5L r
theorem Qbu:∀{l:List AV},Q5L l=true->Qp l=l/\∀x∈l,x=.slc 1 (Q0 (rwA x))\/(x=.val (.slice none 0 0)/\rwA x=[])
 | [],_=>⟨rfl,fun x h=>by cases h⟩
 |x::r,h=>by
  unfold Q5L at h;rw[Bool.and_eq_true]at h;obtain⟨h1,h2⟩:=h;obtain⟨e1,e2⟩:=Qbu h2;split at h1
  ·rename_i l
   refine⟨by rw[Qp,flatMap_cons];show _::Qp r=_;rw[e1],fun y hy=>?_⟩
   rcases mem_cons.1 hy with rfl|hy
   ·left
    show AV.slc 1 l=.slc 1 (Q0 (l.map std.int));rw[<-Q2h h1]
   ·exact e2 y hy
  ·refine⟨by rw[Qp,flatMap_cons];show _::Qp r=_;rw[e1],fun y hy=>?_⟩
   rcases mem_cons.1 hy with rfl|hy
   ·exact .inr ⟨rfl,rfl⟩
   ·exact e2 y hy
  ·cases h1
theorem Q9s(xs:List AV)(hx:Q5L xs=true)(hs:Q2d (xs.map rwA)<=1000000000):BCall prog 17 [.slc 1 xs] [] (.slc 1 (Q0 (xs.map rwA).flatten)) []:=by
 refine BCall.hand (enters_of func17 (by kernel_rfl) rfl) fun w g vs M hL=>?_
 obtain⟨v1,vs1,rfl,h1,hL⟩:=Qt hL;obtain rfl:=Q1i hL;obtain⟨A,c,ys,rfl,hr,ha⟩:=QfA h1 M;obtain⟨ef,ex⟩:=Qbu hx;rw[ef]at ha
 have hR:RowsV w A _ c (xs.map rwA) ys:=⟨hr,by rw[ha.1,length_map],fun i v l e1 e2=>by
  obtain⟨x,e3,rfl⟩:=by rw[getElem?_map]at e2;exact Option.map_eq_some_iff.1 e2
  have hv:=ha.2 i v x e1 e3;rcases ex x (List.mem_of_getElem? e3)with h|⟨rfl,h⟩
  ·generalize rwA x=l at h ⊢
   subst h;obtain⟨A2,c2,ys2,rfl,vS,yn⟩:=QfA (show ARel1 w g [] v (.slc 1 (Q0 l)) from PRel.to0 (ob:=[]) hv) M;have e:Q0 l=(rc l).map .val:=by simp[Q0,rc,Q5U]
   rw[e,Q4d]at yn;obtain rfl:=Q8c yn;exact⟨A2,_,c2,rfl,vS⟩
  ·rw[h]
   obtain rfl:v=.slice none 0 0:=by cases hv;rfl
   exact⟨none,0,0,rfl,⟨rfl,le_refl 0,Nat.zero_le _,fun _=>rfl,fun h=>absurd h (Nat.lt_irrefl 0)⟩⟩⟩
 refine(Qf9 A _ c (xs.map rwA) ys w hR hs).mono fun e w' ⟨v,h,⟨n',ho⟩,qv⟩=>⟨v,h,qv,?_⟩
 obtain⟨fl,qn⟩:=exq ((xs.map rwA).flatten);rw[<-qn]at ho ⊢
 have hn:n'=(Q0 fl).length:=by
  have:=ho.1
  rw[Q6];simpa[rc]using this.symm
 refine Q7r (A':=(g.imm w w').A) ho (by decide) ?_ hn (fun x hx=>by obtain⟨y,_,rfl⟩:=mem_map.1 hx;rfl) (fun b o h1 h2=>.inr ⟨h1,h2⟩)
 have e:∀l:List Int,Q0 l=(rc l).map .val:=fun l=>by simp[Q0,rc,Q5U]
 rw[e,Q4d];refine Q4h fun u hu=>?_
 obtain⟨x,_,rfl⟩:=mem_map.1 hu;rfl
end
section
open Go.Shelf Tryz
def Qi9:Go.Shelf.Ren:=⟨fun|212=>53|263=>84|264=>85|n=>n,fun|46=>113|51=>165|53=>168|146=>166|148=>169|n=>n,fun|n=>n⟩
theorem QoJ:Go.Proofs.Lays.n212 prog Qi9:={
 mixed:=by kernel_rfl
 f212:=func53.trans (congrArg some (by kernel_rfl))
 f263:=func84.trans (congrArg some (by kernel_rfl))
 f264:=func85.trans (congrArg some (by kernel_rfl))
 t46:=underlying113
 a46:=isAgg113
 z46:=sizeOf113
 v46:=zeroValue113
 t51:=underlying165
 a51:=isAgg165
 z51:=sizeOf165
 v51:=zeroValue165
 t53:=underlying168
 a53:=isAgg168
 z53:=sizeOf168
 v53:=zeroValue168
 t146:=underlying166
 a146:=isAgg166
 z146:=sizeOf166
 v146:=zeroValue166
 t148:=underlying169
 a148:=isAgg169
 z148:=sizeOf169
 v148:=zeroValue169 }
end
section
open Go.RowKit Go.Lib Tryz
theorem QfX(n:Nat)(hn:n<=1000000)(w:World):Calls prog 53 #[.int .u64 1,.int .u64 n] w fun e w'=>e=.returned (.tuple #[.int .u64 0,.int .u64 n])/\w'=w:=by
 have h:=Any.bits_Mul QoJ 1 n (by decide) (by omega) w
 rw[Nat.one_mul,Nat.div_eq_of_lt (by omega),Nat.mod_eq_of_lt (by omega)]at h
 exact h
def Q3T(n k:Nat)(r:Int):List Value:=List.replicate k (.int .i32 r)++List.replicate (n-k) (.int .i32 0)
theorem Q9K{n k:Nat}{r:Int}(h:k<=n):(Q3T n k r).length=n:=by simp[Q3T];omega
theorem QhC(n:Nat)(r:Int):madeCells #[Value.int IntKind.i32 0] n=(Q3T n 0 r).toArray:=by
 apply Array.ext';refine List.ext_getElem? fun j=>?_
 simp only[madeCells,Q3T,List.replicate_zero,List.nil_append,Nat.sub_zero,Array.toList_map,Array.toList_range,getElem?_map];by_cases hj:j<n
 ·rw[List.getElem?_range hj,List.getElem?_replicate,if_pos hj]
  simp[Nat.mod_one]
 ·rw[List.getElem?_eq_none (by simpa using hj),List.getElem?_eq_none (by simpa using hj)];rfl
theorem Q8F{n k m:Nat}{r:Int}(h:k+m<=n):splice (Q3T n k r) k (List.replicate m (.int .i32 r))=Q3T n (k+m) r:=by
 unfold splice Q3T;rw[List.take_left' (by simp),length_replicate,List.drop_append,List.drop_eq_nil_of_le (by simp),List.nil_append,length_replicate,List.drop_replicate,<-List.append_assoc,List.replicate_append_replicate]
 congr 2
 omega
theorem Qjx{n k j:Nat}{r:Int}(h:j<k):(Q3T n k r)[j]?=some (.int .i32 r):=by
 unfold Q3T;rw[List.getElem?_append_left (by simpa using h),List.getElem?_replicate,if_pos h]
theorem Qje{W:World}{g n k m T:Nat}{r:Int}(h:W.heap[g]?=some (.cells (Q3T n k r).toArray T (0,0)))(hm:m<=k)(j:Nat)(v:Value)(hj:(List.replicate m (Value.int IntKind.i32 r))[j]?=some v):W.cell? ((⟨g,0,none⟩:Addr).add j)=some v:=by
 rw[List.getElem?_replicate]at hj;split at hj
 ·rename_i hlt
  cases hj;have:=Qjx (n:=n) (k:=k) (j:=j) (r:=r) (by omega)
  have e:(⟨g,0,none⟩:Addr).add j=⟨g,j,none⟩:=by by_cases h0:j=0<;>simp[Addr.add,h0]
  rw[e];simp[World.cell?,h,this]
 ·cases hj
theorem QnY(n:Nat)(r:Int):rc (List.replicate n r)=List.replicate n (.int .i32 r):=by simp[rc]
theorem Qfb(S:Nat->Prop)(A:Option Addr)(c:Nat)(r:Int)(n:Nat)(w:World)(hr:Rd w S 1 A 1 c (rc [r]))(hn:n<=1000000)(hn0:1<=n) :
  Calls prog 36 #[.slice A 1 c,.int .i64 n] w fun e w'=>∃v,e=.returned v/\w'.ownsRow w.heap.size 21 1 v n (rc (List.replicate n r))/\Below w.heap.size w w':=by
 obtain⟨i0,hi,hz0,hz1,hz2⟩:=info_parts Qcl;obtain⟨b,o,rfl,_,hc⟩:=hr.at_ (by decide)
 have hMul:=QfX n hn w;have hmk0:=run_make (P:=prog) w 24 21 i0 _ underlying24 hi hz0 .i64 .i64 n n (by omega) (Int.le_refl _) (by rw[hz2];omega) (by omega)
 rw[hz1,Int.toNat_natCast,Nat.mul_one]at hmk0
 have hmk:Sem.run prog (Instr.makeSlice 24 (Value.int IntKind.i64 n) (Value.int IntKind.i64 n)) w=Result.ok (Value.slice (some { block:=w.heap.size,off:=0 }) n n) (w.alloc (Obj.cells (Q3T n 0 r).toArray 21)):=by
  rw[hmk0];show Result.ok _ (w.alloc (Obj.cells (madeCells #[Value.int IntKind.i32 0] n) 21))=_;rw[QhC n r]
 have hsz:(prog.info? 21).map (·.size)=some 1:=by rw[hi];simp[hz1]
 obtain⟨W1,hW1⟩:=exq (w.alloc (Obj.cells (Q3T n 0 r).toArray 21));have HG:Hid (W1.heap[w.heap.size]?=some (.cells (Q3T n 0 r).toArray 21 (0,0))):=by rw[hW1];exact heap_alloc_new w _
 have HB:Hid (Below w.heap.size w W1):=by rw[hW1];exact(Below.refl _ w).alloc (le_refl _) _
 have hcell:w.cell? ⟨b,o,none⟩=some (.int .i32 r):=hc 0 _ rfl
 have HC:Hid (W1.cell? ⟨b,o,none⟩=some (.int .i32 r)):=by
  show _=_;rw[HB.out.cell (World.block_lt_of_cell? _ _ hcell)];exact hcell
 have HN:=hid hn;rw[<-hW1]at hmk
 have hcp0:=run_copy_row (P:=prog) W1 24 24 3 21 w.heap.size 0 n n ⟨b,o,none⟩ 1 c (Q3T n 0 r).toArray 21 [.int .i32 r] underlying24 hsz HG.out (Nat.min_eq_left hn0).symm (fun j v hj=>by
  match j,hj with
  |0,hj=>cases hj;exact HC.out) (by rw[List.size_toArray,Q9K (Nat.zero_le n)];simpa using hn0) (fun v hv=>by rw[List.mem_singleton]at hv;rw[hv];rfl)
 have e1:(Q3T n 0 r).toArray.toList.take 0++[.int .i32 r]++(Q3T n 0 r).toArray.toList.drop (0 + [Value.int IntKind.i32 r].length)=Q3T n 1 r:=by
  have:=Q8F (n:=n) (k:=0) (m:=1) (r:=r) (by omega)
  simpa[splice]using this
 rw[e1]at hcp0;obtain⟨W2,hW2⟩:=exq (W1.setRow w.heap.size (Q3T n 1 r).toArray);have HG2:Hid (W2.heap[w.heap.size]?=some (.cells (Q3T n 1 r).toArray 21 (0,0))):=by rw[hW2];exact setRow_heap W1 _ _ _ _ _ HG.out
 have HB2:Hid (Below w.heap.size w W2):=by rw[hW2];exact below_setRow HB.out (le_refl _) _
 rw[<-hW2]at hcp0;have hcp:Sem.run prog (Builtin.copy_ #[24,24] 3 #[Value.slice (some { block:=w.heap.size,off:=0 }) n n,Value.slice (some { block:=b,off:=o }) 1 c]) W1=Result.ok (Value.int IntKind.i64 1) W2:=hcp0;clear hr hi hz0 hz1 hz2 hc hcell hW1 hW2 e1 HG HB HC hmk0 hcp0;have h2:¬((n:Int)<0):=by omega
 have h3:¬(9223372036854775807<(n:Int)):=by omega
 go_enter func36,ntmps36
 go_wp2_with (go_at_call 53;refine hMul.mono ?_;rintro e w' ⟨rfl,hw⟩;rw[hw]);go_loopw [8] (fun v wr=>∃(k:Nat),1<=k/\k<=n/\v=.int .i64 k/\Hid (wr.heap[w.heap.size]?=some (.cells (Q3T n k r).toArray 21 (0,0)))/\Hid (Below w.heap.size w wr)) (fun v _=>n-(_root_.Go.RowKit.intOf v).toNat)
 case atStart=>exact⟨1,le_refl 1,hn0,rfl,HG2.out,HB2.out⟩
 case round =>
  obtain⟨k,hk0,hk,rfl,HK,HW⟩:=hrel;by_cases hlt:k<n
  ·have hkn:(k:Int)<=(n:Int):=by omega
   obtain⟨m,hm⟩:=exq (Nat.min k (n-k));have hm1:m<=k:=by rw[hm];exact Nat.min_le_left _ _
   have hm2:m<=n-k:=by rw[hm];exact Nat.min_le_right _ _
   have hm0:1<=m:=by rw[hm];exact Nat.le_min.2 ⟨hk0,by omega⟩
   have HS:=hid (Qje HK.out hm1);have HL:=hid (Q8F (n:=n) (k:=k) (m:=m) (r:=r) (by omega))
   have HF:Hid (k+(List.replicate m (Value.int IntKind.i32 r)).length<=(Q3T n k r).length):=by
    show _<=_;rw[length_replicate,Q9K hk];omega
   have HM:Hid ((List.replicate m (Value.int IntKind.i32 r)).length=Nat.min k (n-k)):=by
    show _=_;rw[length_replicate,hm]
   have hne:¬n=k:=by omega
   have hw9:IntKind.i64.wrap ((k:Int)+(m:Int))=((k+m:Nat):Int):=by rw[IntKind.wrap_i64];have:=HN.out;omega
   clear hm;go_wp2
   go_region_law (refine step_copy_splice rfl (.tmp 41) (.tmp 44) 24 24 rfl 21 underlying24 hsz (some ⟨w.heap.size,k,none⟩) (some ⟨w.heap.size,0,none⟩) (n-k) (n-k) k n (by simp[Act.eval,Act.put,hne]) (by simp[Act.eval,Act.put]) w.heap.size k (Q3T n k r) 21 HK.out (List.replicate m (.int .i32 r)) HM.out (fun _=>⟨rfl,_,rfl,HS.out⟩) HF.out (fun v hv=>by rw[List.eq_of_mem_replicate hv];rfl) w.heap.size w HW.out.drew (le_refl _) ?_;intro w4 hg4 hb4)
   have hw9:=hw9;simp[Act.put,Exit.inBlock,hw9];refine⟨⟨_,_,_,_,_,_,_,_,_,_,_,_,_,_,⟨k+m,by omega,by omega,?e,?r,hb4⟩,rfl⟩,?m⟩
   case e=>simp
   case r=>have h:=hg4.out;rw[HL.out]at h;exact h
   case m=>simp[_root_.Go.RowKit.intOf];omega
  ·have:k=n:=by omega
   subst this;go_wp2
   go_ret
   refine⟨_,rfl,⟨by simp[rc],.inr ⟨w.heap.size,k,(Q3T k k r).toArray,rfl,le_refl _,HK.out,le_refl _,by unfold maxLen;have:=HN.out;omega,by rw[List.size_toArray,Q9K (le_refl k),Nat.mul_one],?_⟩⟩,HW.out⟩
   rw[QnY];simp[Q3T]
theorem Qcx(S:Nat->Prop)(A:Option Addr)(c:Nat)(r:Int)(w:World)(hr:Rd w S 1 A 1 c (rc [r])) :
  Calls prog 36 #[.slice A 1 c,.int .i64 0] w fun e w'=>∃v,e=.returned v/\w'.ownsRow w.heap.size 21 1 v 0 (rc (List.replicate 0 r))/\Below w.heap.size w w':=by
 obtain⟨i0,hi,hz0,hz1,hz2⟩:=info_parts Qcl;have hMul:=QfX 0 (by decide) w
 have hmk0:=run_make (P:=prog) w 24 21 i0 _ underlying24 hi hz0 .i64 .i64 0 0 (by omega) (Int.le_refl _) (by omega) (by omega)
 have hsz:(prog.info? 21).map (·.size)=some 1:=by rw[hi];simp[hz1]
 obtain⟨Z,hZ⟩:=exq (madeCells (Value.int IntKind.i32 0).cells ((0:Int).toNat * i0.size));have hZ0:Z.size=0:=by rw[hZ,size_madeCells];simp
 rw[<-hZ]at hmk0;obtain⟨W1,hW1⟩:=exq (w.alloc (Obj.cells Z 21));have HG:Hid (W1.heap[w.heap.size]?=some (.cells Z 21 (0,0))):=by rw[hW1];exact heap_alloc_new w _
 have HB:Hid (Below w.heap.size w W1):=by rw[hW1];exact(Below.refl _ w).alloc (le_refl _) _
 have hmk:Sem.run prog (Instr.makeSlice 24 (Value.int IntKind.i64 0) (Value.int IntKind.i64 0)) w=Result.ok (Value.slice (some { block:=w.heap.size,off:=0 }) 0 0) W1:=by rw[hW1];exact hmk0
 have hcp:Sem.run prog (Builtin.copy_ #[24,24] 3 #[Value.slice (some { block:=w.heap.size,off:=0 }) 0 0,Value.slice A 1 c]) W1=Result.ok (Value.int IntKind.i64 0) W1 :=
  run_copy_none (P:=prog) W1 24 24 3 21 _ _ 0 0 1 c underlying24 hsz rfl
 have HZ:=hid hZ0;clear hr hi hz0 hz1 hz2 hmk0 hW1 hZ hZ0;go_enter func36,ntmps36
 go_wp2_with (go_at_call 53;refine hMul.mono ?_;rintro e w' ⟨rfl,hw⟩;rw[hw]);go_loopw [8] (fun v wr=>v=.int .i64 0/\Hid (wr.heap[w.heap.size]?=some (.cells Z 21 (0,0)))/\Hid (Below w.heap.size w wr)) (fun v _=>0)
 case atStart=>exact⟨rfl,HG.out,HB.out⟩
 case round =>
  obtain⟨rfl,HK,HW⟩:=hrel;go_wp2
  go_ret
  exact⟨_,rfl,⟨by simp[rc],.inr ⟨w.heap.size,0,Z,rfl,le_refl _,HK.out,le_refl _,by decide,by rw[HZ.out],by simp[rc]⟩⟩,HW.out⟩
theorem Q9l(r:Int)(n:Nat)(hn:n<=1000000):BCall prog 36 [.slc 1 (Q0 [r]),.val (.int .i64 n)] [] (.slc 1 (Q0 (List.replicate n r))) []:=by
 refine BCall.hand (enters_of func36 (by kernel_rfl) rfl) fun w g vs M hL=>?_
 obtain⟨v1,vs1,rfl,h1,hL⟩:=Qt hL;obtain⟨v2,vs2,rfl,h2,hL⟩:=Qt hL;obtain rfl:=Q1i hL;obtain rfl:=Q1G h2;obtain⟨A,c,rfl,hr⟩:=Q26 h1 M
 have key:Calls prog 36 #[.slice A 1 c,.int .i64 n] w fun e w'=>∃v,e=.returned v/\w'.ownsRow w.heap.size 21 1 v n (rc (List.replicate n r))/\Below w.heap.size w w':=by
  rcases Nat.eq_zero_or_pos n with rfl|h0
  ·exact Qcx _ A c r w hr
  ·exact Qfb _ A c r n w hr hn h0
 refine key.mono fun e w' ⟨v,h,ho,hbel⟩=>⟨v,h,hbel,?_⟩
 obtain⟨fl,hfl⟩:=exq (List.replicate n r);have hln:fl.length=n:=by rw[hfl,length_replicate]
 rw[<-hfl]at ho ⊢;refine Q7r (A':=(g.imm w w').A) ho (by decide) ?_ (by rw[Q6,hln]) (fun x hx=>by obtain⟨y,_,rfl⟩:=mem_map.1 hx;rfl) (fun b o h1 h2=>.inr ⟨h1,h2⟩)
 have e:∀l:List Int,Q0 l=(rc l).map .val:=fun l=>by simp[Q0,rc,Q5U]
 rw[e,Q4d];refine Q4h fun u hu=>?_
 obtain⟨x,_,rfl⟩:=mem_map.1 hu;rfl
end
section
open Go.RowKit Go.Lib Tryz
def wI(n lo hi:Int):Int:=if hi<(if n<lo then lo else n)then hi else(if n<lo then lo else n)
theorem Qlg{n lo hi:Int}(h:lo<=hi):wI n lo hi=if n<lo then lo else if hi<n then hi else n:=by
 unfold wI;repeat' split
 all_goals omega
structure Cf where
 i:Int
 w:Int
 q:Int
 e:Int
 n:Int
 tabs:Bool
 wrap:Bool
def Cf.av(c:Cf):AV:=.agg [.val (.int .i64 c.i),.val (.int .i64 c.w),.val (.int .i64 c.q),.val (.int .i64 c.e),.val (.int .i64 c.n),.val (.bool c.tabs),.val (.bool c.wrap)]
def Cf.clamp(c:Cf):Cf:=⟨wI c.i 0 8,wI c.w 20 200,wI c.q 0 2,wI c.e 0 3,wI c.n 0 2,c.tabs,c.wrap⟩
theorem Q4S(n lo hi:Int):BCall prog 29 [.val (.int .i64 n),.val (.int .i64 lo),.val (.int .i64 hi)] [] (.val (.int .i64 (wI n lo hi))) []:=by
 refine fnN (cs0) func29 rfl fun _ _=>?_
 with_reducible refine cv0 ?_
 exact .pure rfl (.inl rfl)
theorem Q8o(n lo hi:Int)(h:lo<=hi):BCall prog 38 [.val (.int .i64 n),.val (.int .i64 lo),.val (.int .i64 hi)] [] (.val (.int .i64 (wI n lo hi))) []:=by
 rw[Qlg h];refine fnN (cs0) func38 rfl fun _ _=>?_
 with_reducible refine cv0 ?_
 refine⟨fun h1=>.pure rfl (.inl ?_),fun h1=>⟨fun h2=>.pure rfl (.inl ?_),fun h2=>.pure rfl (.inl ?_)⟩⟩
 ·have h1:n<lo:=of_decide_eq_true h1
  rw[if_pos h1]
 ·have h1:¬n<lo:=of_decide_eq_false h1
  have h2:hi<n:=of_decide_eq_true h2;rw[if_neg h1,if_pos h2]
 ·have h1:¬n<lo:=of_decide_eq_false h1
  have h2:¬hi<n:=of_decide_eq_false h2;rw[if_neg h1,if_neg h2]
def Qok(W:Int->Int->Int->Int):Nat->List AV->List Ob->Option (AV×List Ob):=fun f args _=>match f,args with
 |29,[.val (.int .i64 n),.val (.int .i64 lo),.val (.int .i64 hi)]=>some (.val (.int .i64 (W n lo hi)),[])
 |38,[.val (.int .i64 n),.val (.int .i64 lo),.val (.int .i64 hi)]=>some (.val (.int .i64 (W n lo hi)),[])
 |_,_=>none
theorem Q5k(c:Cf):BCall prog 9 [c.av] [] c.clamp.av []:=by
 obtain⟨i,w,q,e,n,tabs,wrap⟩:=c;unfold Cf.clamp Cf.av;refine fnN (Qok wI) func9 rfl fun _ _=>?_
 with_reducible refine cv1 wI ?_
 exact⟨Q4S _ _ _,Q4S _ _ _,Q4S _ _ _,Q4S _ _ _,Q4S _ _ _,.pure rfl ⟨.inl rfl,.inl rfl,.inl rfl,.inl rfl,.inl rfl,.inl rfl,.inl rfl,trivial⟩⟩
theorem Q3f(c:Cf):BCall prog 19 [c.av] [] c.clamp.av []:=by
 obtain⟨i,w,q,e,n,tabs,wrap⟩:=c;unfold Cf.clamp Cf.av;refine fnO false (Qok wI) (fun id=>match id with|1=> .of [0,1,3,4,6,7,9,10,12,13,15,16,17,18,2,5,8,11,14,19,20]|_=>.nil) func19 rfl fun _ _=>?_
 with_reducible refine cv1 wI ?_
 exact⟨Q8o _ _ _ (by decide),Q8o _ _ _ (by decide),Q8o _ _ _ (by decide),Q8o _ _ _ (by decide),Q8o _ _ _ (by decide),.pure rfl ⟨.inl rfl,.inl rfl,.inl rfl,.inl rfl,.inl rfl,.inl rfl,.inl rfl,trivial⟩⟩
def QmR(xs:List AV)(n:Int):List AV:=Q0 (List.replicate n.toNat (match xs with
 | [x]=>std.int x
 |_=>0))
theorem Qkr(r n:Int)(h0:0<=n)(h1:n<=1000000):BCall prog 36 [.slc 1 [.val (.int .i32 r)],.val (.int .i64 n)] [] (.slc 1 (QmR [.val (.int .i32 r)] n)) []:=by
 obtain⟨m,rfl⟩:=Int.eq_ofNat_of_zero_le h0;exact Q9l r m (by omega)
theorem Q48{n lo hi:Int}(h:lo<=hi):lo<=wI n lo hi/\wI n lo hi<=hi:=by
 unfold wI;repeat' split
 all_goals omega
def QoI(W:Int->Int->Int->Int)(C:List AV)(RP:List AV->Int->List AV):Nat->List AV->List Ob->Option (AV×List Ob):=fun f args _=>match f,args with
 |29,[.val (.int .i64 n),.val (.int .i64 lo),.val (.int .i64 hi)]=>some (.val (.int .i64 (W n lo hi)),[])
 |9,[_]=>some (.agg C,[])
 |36,[.slc 1 xs,.val (.int .i64 n)]=>some (.slc 1 (RP xs n),[])
 |_,_=>none
def QL(c:Cf)(d:Int):List Int:=if c.tabs then List.replicate (wI d 0 200).toNat 9 else List.replicate (wI d 0 200 * wI c.i 0 8).toNat 32
theorem Qo3(c:Cf)(d:Int):BCall prog 16 [c.av,.val (.int .i64 d)] [] (.slc 1 (Q0 (QL c d))) []:=by
 have cC:=Q5k c;have hd:=Q48 (n:=d) (lo:=0) (hi:=200) (by decide)
 have hi:=Q48 (n:=c.i) (lo:=0) (hi:=8) (by decide)
 obtain⟨i,w,q,e,n,tabs,wrap⟩:=c;unfold Cf.clamp Cf.av at cC;unfold Cf.av;obtain⟨a0,zj⟩:=exq (wI i 0 8);have hi:0<=a0/\a0<=8:=by rw[zj];exact hi
 simp only[<-zj]at cC;refine fnN (QoI wI [.val (.int .i64 a0),.val (.int .i64 (wI w 20 200)),.val (.int .i64 (wI q 0 2)),.val (.int .i64 (wI e 0 3)),.val (.int .i64 (wI n 0 2)),.val (.bool tabs),.val (.bool wrap)] QmR) func16 rfl fun _ _=>?_
 with_reducible refine cv2 wI QmR ?_
 have qF:0<=wI d 0 200 * a0:=Int.mul_nonneg hd.1 hi.1;have qp:wI d 0 200 * a0<=200 * 8:=Int.mul_le_mul hd.2 hi.2 hi.1 (by decide)
 refine⟨Q4S _ _ _,fun ht=>?_,fun ht=>?_⟩
 ·subst ht
  exact⟨Qkr 9 _ hd.1 (by omega),.pure rfl (.inl rfl)⟩
 ·subst ht
  refine⟨cC,?_,Qkr 32 _ qF (by show wI d 0 200 * a0<=_;omega),.pure rfl (.inl ?_)⟩
  ·show(-9223372036854775808:Int)<=wI d 0 200 * a0/\wI d 0 200 * a0<=9223372036854775807
   omega
  ·show AV.slc 1 (Q0 (List.replicate (wI d 0 200 * a0).toNat 32))=_
   rw[zj];rfl
