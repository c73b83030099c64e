/-
  Parts of the proof, joined: Sd Sl MkP. Conditions: as each theorem says.
-/
import Derived.Test.YtibemhahkicbpaaGreatQI11
import Derived.Test.YtibemhahkicbpaaGreatQI10
import Derived.Test.YtibemhahkicbpaaGreatQI14
import Derived.Test.YtibemhahkicbpaaGreatQI01
set_option maxRecDepth 100000
set_option maxHeartbeats 8000000
namespace Go.Proofs.YtibemhahkicbpaaGreat
open Go.RowKit Go.Lib Tryz
section
variable {w w':World} {A':Nat→Nat→Prop}
theorem Qdi {us:List Value}(h:∀ u∈us,u.oneCell'=true):Alike w A' us (us.map .val):=by
 refine⟨by simp,fun j y u hy hu=>?_⟩
 rw[List.getElem?_map,hy] at hu
 obtain rfl:AV.val y=u:=by simpa using hu
 exact PRel.val _ (h y (List.mem_of_getElem? hy))
theorem Qij {base e sz n:Nat}{v:Value}{ys:List Value}{xs:List AV}(h:w'.ownsRow base e sz v n ys)(hsz:0<sz)(hal:Alike w' A' ys (Qx xs))(hn:n=xs.length)(hw:∀ x∈xs,x.cells.length=sz)
  (hA:∀ b o,base≤b→b<w'.heap.size→A' b o):PRel w' A' v (.slc sz xs):=by
 obtain⟨A,c,rfl,hr⟩:=Q1t h
 refine Qho (S:=fun b=>base≤b∧b<w'.heap.size) ⟨hr.len,hr.le,hr.max,hr.nil,fun hp=>?_⟩ (fun b o hb=>hA b o hb.1 hb.2) hn hw (fun a ha=>?_) hal
 ·obtain⟨b,o,h1,h2,h3⟩:=hr.at_ hp
  have hlen:0<ys.length:=by rw[hr.len];exact Nat.mul_pos hp hsz
  have:=h3 0 ys[0] (List.getElem?_eq_getElem hlen)
  exact⟨b,o,h1,⟨h2,World.block_lt_of_cell? w' _ this⟩,h3⟩
 ·rcases h.2 with ⟨h1,_⟩|⟨b,cap,cur,h1,_⟩
  ·cases h1;cases ha
  ·cases h1;cases ha;exact⟨b,0,rfl⟩
end
def Qe6 (x:Int×Nat×Nat):Itm:=⟨x.1,x.2.1,x.2.2⟩
def Q5Q (b:List UInt8):List Itm:=(Q3H b).map Qe6
theorem Qdb (l:List (Int×Nat×Nat)):Qx (QS (l.map Qe6))=(QN l).map .val:=by
 induction l with
 |nil=>rfl
 |cons x r ih=>simp only[QS,List.map_cons,Qx,List.flatMap_cons,QN,List.map_append] at ih ⊢;rw[ih];rfl
theorem QiT (b:List UInt8)(hb:b.length≤100000000):BCall prog 98 [.slc 1 (Q5 b)] [] (.slc 3 (QS (Q5Q b))) []:=by
 refine BCall.hand (enters_of func98 (by kernel_rfl) rfl) fun w g vs M hL=>?_
 obtain⟨v1,vs1,rfl,h1,hL⟩:=Q1r hL
 obtain rfl:=Q4o hL
 obtain⟨A,c,rfl,hr⟩:=QhJ h1 M
 refine (Qa4 _ A _ c b w hr (by omega)).mono fun e w' ⟨v,h,⟨n',ho⟩,hbel⟩=>⟨v,h,hbel,?_⟩
 have hn:n'=(QS (Q5Q b)).length:=by
  have:=ho.1
  rw[Q35] at this
  rw[Q4a,Q5Q,List.length_map];omega
 refine Qij (A':=(g.imm w w').A) ho (by decide) ?_ hn (fun x hx=>?_) (fun b o h1 h2=>.inr ⟨h1,h2⟩)
 ·rw[Q5Q,Qdb]
  refine Qdi fun u hu=>?_
  obtain⟨x,_,hx⟩:=List.mem_flatMap.1 hu
  simp only[List.mem_cons,List.not_mem_nil,or_false] at hx
  rcases hx with rfl|rfl|rfl<;>rfl
 ·obtain⟨y,_,rfl⟩:=List.mem_map.1 hx
  rfl
def Q4E (kind:Int)(b:List UInt8):List Itm:=if kind=0 then Q5Q b else if kind=1 then Q1M true 0 b else if kind=2 then Q1M false 0 b else []
def Qle (f8:List AV→List AV)(fw:Bool→List AV→List AV):Nat→List AV→List Ob→Option (AV×List Ob):=fun f args _=>match f,args with
 |98,[.slc 1 xs]=>some (.slc 3 (f8 xs),[])
 |99,[.slc 1 xs,.val (.bool b)]=>some (.slc 3 (fw b xs),[])
 |_,_=>none
def f8A (xs:List AV):List AV:=QS (Q5Q (xs.map Q2p))
def fwA (big:Bool)(xs:List AV):List AV:=QS (Q1M big 0 (xs.map Q2p))
theorem Q8X (kind:Int)(b:List UInt8)(hb:b.length≤100000000):BCall prog 48 [.val (.int .i64 kind),.slc 1 (Q5 b)] [] (.slc 3 (QS (Q4E kind b))) []:=by
 have hf8:f8A (Q5 b)=QS (Q5Q b):=by rw[f8A,Q32]
 have hfw:∀ big,fwA big (Q5 b)=QS (Q1M big 0 b):=fun big=>by rw[fwA,Q32]
 have c8:BCall prog 98 [.slc 1 (Q5 b)] [] (.slc 3 (f8A (Q5 b))) []:=by rw[hf8];exact QiT b hb
 have cw:∀ big,BCall prog 99 [.slc 1 (Q5 b),.val (.bool big)] [] (.slc 3 (fwA big (Q5 b))) []:=fun big=>by rw[hfw];exact Qg6 big b (by omega)
 refine fnN (cs:=Qle f8A fwA) func48 rfl (by kernel_rfl) ?_
 intro w0 g0
 generalize hp:std=p,hf8:f8A=f8,hfw:fwA=fw,hbs:Q5 b=bs
 generalize hT:Q8 p tys (Qle f8 fw) _ _ _ _=T
 cbv at hT
 subst hT
 simp only[Tree.ok,Q4,S0]
 subst hp hf8 hfw hbs
 refine⟨fun h=>⟨c8,.pure rfl (.inl ?_)⟩,fun h=>⟨fun h1=>⟨cw _,.pure rfl (.inl ?_)⟩,fun h1=>⟨fun h2=>⟨cw _,.pure rfl (.inl ?_)⟩,fun h2=>.pure rfl (.inr (.inl ⟨rfl,3,?_⟩))⟩⟩⟩
 ·have h:kind=0:=by simpa[std] using h
  rw[Q4E,if_pos h,hf8]
 ·have h:¬ kind=0:=by simpa[std] using h
  have h1':kind=1:=by simpa[std] using h1
  have h1:std.eqI kind 1=true:=h1
  show AV.slc 3 (fwA (std.eqI kind 1) (Q5 b))=_
  rw[Q4E,if_neg h,if_pos h1',h1,hfw]
 ·have h:¬ kind=0:=by simpa[std] using h
  have h1':¬ kind=1:=by simpa[std] using h1
  have h2:kind=2:=by simpa[std] using h2
  have h1:std.eqI kind 1=false:=h1
  show AV.slc 3 (fwA (std.eqI kind 1) (Q5 b))=_
  rw[Q4E,if_neg h,if_neg h1',if_pos h2,h1,hfw]
 ·have h:¬ kind=0:=by simpa[std] using h
  have h1:¬ kind=1:=by simpa[std] using h1
  have h2:¬ kind=2:=by simpa[std] using h2
  rw[Q4E,if_neg h,if_neg h1,if_neg h2];rfl
structure Txt where
 kind:Int
 bom:Int
 r:List Int
 off:List Int
 deriving Inhabited
def Txt.cs (t:Txt):List AV:=[.val (.int .i64 t.kind),.val (.int .i64 t.bom),.slc 1 (Q1 t.r),.slc 1 (Q9 t.off)]
def Q2S (b:List UInt8):List Itm:=Q4E (QI b).1 (b.drop (QI b).2.toNat)
def Q6 (b:List UInt8):Txt:=⟨(QI b).1,(QI b).2,(Q2S b).map Itm.r,(Q2S b).map (fun x=>x.off+(QI b).2)++[(b.length:Int)]⟩
theorem Q4b (b:List UInt8):0≤(QI b).2∧(QI b).2≤b.length:=by
 have key:∀ (x:List UInt8×Int×Int),x∈signsL→x.1.isPrefixOf b=true→0≤x.2.2∧x.2.2≤b.length:=by
  intro x hx hp
  have:=(List.isPrefixOf_iff_prefix.1 hp).length_le
  simp only[signsL,List.mem_cons,List.not_mem_nil,or_false] at hx
  rcases hx with rfl|rfl|rfl|rfl|rfl<;>simp at this ⊢<;>omega
 unfold QI kR
 split
 ·rename_i x hx
  have h1:=List.find?_some hx
  have h2:=List.mem_of_find?_eq_some hx
  exact key x (by simpa using h2) h1
 ·simp only;omega
def csD (k bom:Int)(pc:Int→List AV→List AV):Nat→List AV→List Ob→Option (AV×List Ob):=fun f args _=>match f,args with
 |84,_=>some (.tup [.val (.int .i64 k),.val (.int .i64 bom)],[])
 |48,[.val (.int .i64 k),.slc 1 xs]=>some (.slc 3 (pc k xs),[])
 |_,_=>none
def pcA (k:Int)(xs:List AV):List AV:=QS (Q4E k (xs.map Q2p))
theorem QgA (b:List UInt8)(hb:b.length≤1000000)(hps:(Q2S b).length≤1000000)(hoff:∀ x∈Q2S b,0≤x.off∧x.off≤1000000) :
  BCall prog 40 [.slc 1 (Q5 b)] [] (.agg (Q6 b).cs) []:=by
 have hkb:=Q4b b
 have cK:=Qjq b
 obtain⟨k,hk⟩:=exq ((QI b).1)
 obtain⟨bom,hbom⟩:=exq ((QI b).2)
 obtain⟨ps,hpsE⟩:=exq (Q2S b)
 have hT:Q6 b=⟨k,bom,ps.map Itm.r,ps.map (fun x=>x.off+bom)++[(b.length:Int)]⟩:=by rw[hk,hbom,hpsE];rfl
 have hpb:ps=Q4E k (b.drop bom.toNat):=by rw[hk,hbom,hpsE];rfl
 rw[hT]
 rw[←hpsE] at hps hoff
 rw[←hk,←hbom] at cK
 rw[←hbom] at hkb
 clear hT hk hbom hpsE
 have hcut:std.cut (Q5 b) bom (std.len (Q5 b))=Q5 (b.drop bom.toNat):=by
  show ((Q5 b).drop bom.toNat).take ((Q5 b).length-bom:Int).toNat=_
  rw[Q5,Q5,List.map_drop,List.take_of_length_le (by simp;omega)]
 have hpc:pcA k (std.cut (Q5 b) bom (std.len (Q5 b)))=QS ps:=by rw[hcut,pcA,Q32,hpb]
 have cP:BCall prog 48 [.val (.int .i64 k),.slc 1 (std.cut (Q5 b) bom (std.len (Q5 b)))] [] (.slc 3 (pcA k (std.cut (Q5 b) bom (std.len (Q5 b))))) []:=by
  rw[hpc,hcut,hpb];exact Q8X k _ (by rw[List.length_drop];omega)
 obtain⟨nb,hnb⟩:=QX b
 obtain⟨n,hn⟩:=QX ps
 have hbn:bom≤nb:=by rw[hnb.eq];exact hkb.2
 have hb0:=hkb.1
 clear hkb
 refine fnO false (cs:=csD k bom pcA) (ord:=fun id=>match id with|3=>.of [0,1,2,3,4,5,8,6,7]|_=>.nil) func40 rfl (by kernel_rfl) ?_
 intro w0 g0
 generalize hp:std=p,hpc:pcA=pc,hbs:Q5 b=bs
 generalize hT:Q8 p tys (csD k bom pc) _ _ _ _=T
 cbv at hT
 subst hT
 simp only[Tree.ok,Q4,S0]
 subst hp hpc hbs
 have enb:=hnb.eq
 have en:=hn.eq
 have hbl:=Q1A b
 refine⟨cK,?_,cP,?_⟩
 ·simp only[std,hbl];omega
 have hnm:std.len (pcA k (std.cut (Q5 b) bom (std.len (Q5 b))))=n:=by rw[hpc];simp only[std,Q4a];omega
 refine Q1P (cs:=csD k bom pcA) (by kernel_rfl) (X:=Int) (fun i=>⟨[(0,.slc 1 (Q5 b)),(2,.box 0 0),(3,.box 1 0),(20,.slc 3 (QS ps)),(21,.val (.int .i64 n)),(22,.val (.int .i64 i))],[.box [.val (.int .i64 0),.val (.int .i64 0),.val (.slice none 0 0),.val (.slice none 0 0)],.box [.val (.int .i64 k),.val (.int .i64 bom),.row 2 0,.row 3 0],.row 21 1 false 0 (Q1 ((ps.take i.toNat).map Itm.r)),.row 3 1 false 0 (Q9 ((ps.take i.toNat).map fun x=>x.off+bom))]⟩) (fun i=>0≤i∧i≤n) (fun i=>(n-i).toNat) 0 ?_ ?_ ?_
 ·omega
 ·refine⟨[some 0,some 1,none,none],_,rfl,?_⟩
  simp only[Int.toNat_zero,List.take_zero,List.map_nil]
  repeat first
   |exact trivial
   |refine⟨gA hpc,?_⟩
   |refine⟨gI hnm,?_⟩
   |refine⟨rfl,?_⟩
 ·rintro i ⟨hi0,hin⟩
  have hil:=Q4a ps
  rcases Int.lt_or_eq_of_le hin with hlt|heq
  ·have hat:(QS ps)[i.toNat]?.getD .dead=(ps[i.toNat]?.getD ⟨0,0,0⟩).av:=QfK Itm.av hi0 (by omega) ⟨0,0,0⟩
   have hil2:i.toNat<ps.length:=by omega
   have hx:=hoff (ps[i.toNat]?.getD ⟨0,0,0⟩) (by simp[hil2])
   have ht:ps.take (i+1).toNat=ps.take i.toNat++[ps[i.toNat]?.getD ⟨0,0,0⟩]:=by
    rw[show (i+1).toNat=i.toNat+1 by omega,List.take_add_one]
    simp[hil2]
   have hr1:Q1 ((ps.take (i+1).toNat).map Itm.r)=Q1 ((ps.take i.toNat).map Itm.r)++[.val (.int .i32 (ps[i.toNat]?.getD ⟨0,0,0⟩).r)]:=by
    rw[ht,List.map_append,Qaf];rfl
   have hr2:Q9 ((ps.take (i+1).toNat).map fun x=>x.off+bom)=Q9 ((ps.take i.toNat).map fun x=>x.off+bom)++[.val (.int .i64 ((ps[i.toNat]?.getD ⟨0,0,0⟩).off+bom))]:=by
    rw[ht,List.map_append,Q4N];rfl
   have hl1:(Q1 ((ps.take i.toNat).map Itm.r)).length≤1000000:=by simp[Q1];omega
   have hl2:(Q9 ((ps.take i.toNat).map fun x=>x.off+bom)).length≤1000000:=by simp[Q9];omega
   obtain⟨x,hxE⟩:=exq (ps[i.toNat]?.getD ⟨0,0,0⟩)
   rw[←hxE] at hat hx hr1 hr2
   obtain⟨R,hR⟩:=exq (Q1 ((ps.take i.toNat).map Itm.r))
   obtain⟨O,hO⟩:=exq (Q9 ((ps.take i.toNat).map fun x=>x.off+bom))
   rw[←hR] at hr1 hl1 ⊢
   rw[←hO] at hr2 hl2 ⊢
   clear en enb ht
   generalize hp:std=p,hpc:pcA=pc,hbs:Q5 b=bs,his:QS ps=is
   generalize hT:Q8 p tys (csD k bom pc) _ _ _ _=T
   cbv at hT
   subst hT
   simp only[Tree.ok,Q4,S0]
   subst hp hpc hbs his
   have en:=hn.eq
   have enb:=hnb.eq
   repeat' first
    |(with_reducible refine And.intro (fun hx=>absurd hx (by first|(try simp[std,S1,hat,Itm.av,hil,hlt,hi0])<;>omega|omega)) (fun _=>?_))
    |(with_reducible refine And.intro (fun _=>?_) (fun hx=>absurd hx (by first|(try simp[std,S1,hat,Itm.av,hil,hlt,hi0])<;>omega|omega)))
    |(with_reducible refine And.intro (by first|(try simp[std,S1,hat,Itm.av,hil,hlt,hi0])<;>omega|omega) ?_)
    |(with_reducible refine And.intro ?_ ?_)
    |(with_reducible intro hb)
   exact⟨i+1,⟨by omega,by omega⟩,by omega,[some 0,some 1,some 2,some 3],_,rfl,by simp[-List.map_take,Qh,lk,std,hat,hil,Itm.av,AV.cells,Qg,hr1,hr2]⟩
  ·have ht:ps.take i.toNat=ps:=List.take_of_length_le (by omega)
   rw[ht]
   have hl2:(Q9 (ps.map fun x=>x.off+bom)).length≤1000000:=by simp[Q9];omega
   have hf:Q9 (ps.map (fun x=>x.off+bom)++[(b.length:Int)])=Q9 (ps.map fun x=>x.off+bom)++[.val (.int .i64 nb)]:=by
    rw[Q4N,hnb.eq];rfl
   have hlb:std.len (Q5 b)=nb:=by rw[enb];simp only[std,hbl]
   obtain⟨R,hR⟩:=exq (Q1 (ps.map Itm.r))
   obtain⟨O,hO⟩:=exq (Q9 (ps.map fun x=>x.off+bom))
   rw[←hO] at hl2 hf
   have hcs:(Txt.mk k bom (ps.map Itm.r) (ps.map (fun x=>x.off+bom)++[(b.length:Int)])).cs=[.val (.int .i64 k),.val (.int .i64 bom),.slc 1 R,.slc 1 (O++[.val (.int .i64 nb)])]:=by
    rw[Txt.cs,hf,hR]
   rw[hcs,←hR,←hO]
   clear en enb ht hcs
   generalize hp:std=p,hpc:pcA=pc,hbs:Q5 b=bs,his:QS ps=is
   generalize hT:Q8 p tys (csD k bom pc) _ _ _ _=T
   cbv at hT
   subst hT
   simp only[Tree.ok,Q4,S0]
   subst hp hpc hbs his
   repeat' first
    |(with_reducible refine And.intro (fun hx=>absurd hx (by first|(try simp[std,S1,heq])<;>omega|omega)) (fun _=>?_))
    |(with_reducible refine And.intro (fun _=>?_) (fun hx=>absurd hx (by first|(try simp[std,S1,heq])<;>omega|omega)))
    |(with_reducible refine And.intro (by first|(try simp[std,S1,heq])<;>omega|omega) ?_)
    |(with_reducible refine And.intro ?_ ?_)
    |(with_reducible intro hb)
   rw[if_pos trivial]
   generalize hp:std=p,hpc:pcA=pc,hbs:Q5 b=bs,his:QS ps=is
   generalize hT:Q8 p tys (csD k bom pc) _ _ _ _=T
   cbv at hT
   subst hT
   simp only[Tree.ok,Q4,S0]
   subst hp hpc hbs his
   refine⟨?_,.pure rfl ?_⟩
   ·simp[std];omega
   ·refine⟨.inl rfl,.inl rfl,.inl rfl,.inl ?_,trivial⟩
    show AV.slc 1 (std.app O [.val (.int .i64 (std.len (Q5 b)))])=_
    rw[hlb];rfl
end Go.Proofs.YtibemhahkicbpaaGreat
namespace Go.Proofs.YtibemhahkicbpaaGreat
open Go.RowKit Go.Lib Tryz
theorem Qlt (t:Txt)(a b:Int)(h0:0≤a)(h1:a≤b)(h2:b≤t.r.length):BCall prog 103 [.agg t.cs,.val (.int .i64 a),.val (.int .i64 b)] [] (.val (.bool true)) []:=by
 obtain⟨n,hn⟩:=QX t.r
 have h2n:b≤n:=by rw[hn.eq];exact h2
 clear h2
 unfold Txt.cs
 obtain⟨k,hk⟩:=exq t.kind
 obtain⟨m,hm⟩:=exq t.bom
 obtain⟨R,hR⟩:=exq (Q1 t.r)
 obtain⟨O,hO⟩:=exq (Q9 t.off)
 have hRl:R.length=t.r.length:=by rw[hR,Q13]
 rw[←hk,←hm,←hR,←hO]
 refine fnN (cs:=cs0) func103 rfl (by kernel_rfl) ?_
 intro w0 g0
 generalize hp:std=p
 generalize hT:Q8 p tys (cs0) _ _ _ _=T
 cbv at hT
 subst hT
 simp only[Tree.ok,Q4,S0]
 subst hp
 have en:=hn.eq
 have hRn:((R.length:Nat):Int)=n:=by omega
 repeat' first
  |(with_reducible refine And.intro (fun hx=>absurd hx (by first|(try simp[std,S1,hRn,h0,h1,h2n])<;>omega|omega)) (fun _=>?_))
  |(with_reducible refine And.intro (fun _=>?_) (fun hx=>absurd hx (by first|(try simp[std,S1,hRn,h0,h1,h2n])<;>omega|omega)))
  |(with_reducible refine And.intro (by first|(try simp[std,S1,hRn,h0,h1,h2n])<;>omega|omega) ?_)
  |(with_reducible refine And.intro ?_ ?_)
  |(with_reducible intro hb)
 refine .pure rfl (.inl ?_)
 have:std.leI b (std.len R)=true:=by simp only[std,hRn];exact decide_eq_true h2n
 show AV.val (.bool (std.leI b (std.len R)))=_
 rw[this]
def Ql3:Nat→List AV→List Ob→Option (AV×List Ob):=fun f args _=>match f,args with
 |103,_=>some (.val (.bool true),[])
 |214,[.slc 1 xs]=>some (.slc 1 xs,[])
 |_,_=>none
structure TxtOk (t:Txt) (b:List UInt8):Prop where
 len:t.off.length=t.r.length+1
 range:∀ x∈t.off,0≤x∧x≤b.length
 last:t.off[t.r.length]?.getD 0=b.length
 mono:∀ i j:Nat,i≤j→j≤t.r.length→t.off[i]?.getD 0≤t.off[j]?.getD 0
def QL (t:Txt)(b:List UInt8)(i j:Int):List UInt8:=(b.drop (t.off[i.toNat]?.getD 0).toNat).take ((t.off[j.toNat]?.getD 0)-(t.off[i.toNat]?.getD 0)).toNat
theorem Qip (t:Txt)(bs:List UInt8)(hbs:bs.length≤1000000)(ok:TxtOk t bs)(hrl:t.r.length≤1000000)(i j:Int)(h0:0≤i)(h1:i≤j)(h2:j≤t.r.length) :
  BCall prog 179 [.agg t.cs,.slc 1 (Q5 bs),.val (.int .i64 i),.val (.int .i64 j)] [] (.slc 1 (Q5 (QL t bs i j))) []:=by
 have cI:=Qlt t i j h0 h1 h2
 obtain⟨lo,hlo⟩:=exq (t.off[i.toNat]?.getD 0)
 obtain⟨hi,hhi⟩:=exq (t.off[j.toNat]?.getD 0)
 have hol:=ok.len
 have olen:=Q2h t.off
 have alo:=Q2K (l:=t.off) (i:=i) h0 (by omega)
 have ahi:=Q2K (l:=t.off) (i:=j) (by omega) (by omega)
 have ala:=Q2K (l:=t.off) (i:=(t.r.length:Int)) (by omega) (by omega)
 rw[Int.toNat_natCast,ok.last] at ala
 rw[←hlo] at alo
 rw[←hhi] at ahi
 have hle:lo≤hi:=by rw[hlo,hhi];exact ok.mono _ _ (by omega) (by omega)
 have hlo0:0≤lo:=by
  have h3:i.toNat<t.off.length:=by omega
  have:=ok.range (t.off[i.toNat]'h3) (List.getElem_mem h3)
  rw[hlo,List.getElem?_eq_getElem h3]
  exact this.1
 obtain⟨nb,hnb⟩:=QX bs
 have hhin:hi≤nb:=by
  have h3:j.toNat<t.off.length:=by omega
  have:=ok.range (t.off[j.toNat]'h3) (List.getElem_mem h3)
  rw[hhi,hnb.eq,List.getElem?_eq_getElem h3]
  exact this.2
 have hcut:std.cut (Q5 bs) lo hi=Q5 (QL t bs i j):=by
  show ((Q5 bs).drop lo.toNat).take (hi-lo).toNat=_
  rw[QL,←hlo,←hhi,Q5,Q5,List.map_take,List.map_drop]
 obtain⟨nr,hnr⟩:=QX t.r
 have hjn:j≤nr:=by rw[hnr.eq];exact h2
 have cC:BCall prog 214 [.slc 1 (std.cut (Q5 bs) lo hi)] [] (.slc 1 (std.cut (Q5 bs) lo hi)) []:=Qh9 _ (by rw[hcut,Q1A,QL,List.length_take,List.length_drop];omega)
 rw[←hcut]
 clear hcut ok hlo hhi h2
 unfold Txt.cs at cI ⊢
 obtain⟨k,hk⟩:=exq t.kind
 obtain⟨m,hm⟩:=exq t.bom
 obtain⟨R,hR⟩:=exq (Q1 t.r)
 obtain⟨O,hO⟩:=exq (Q9 t.off)
 rw[←hk,←hm,←hR,←hO] at cI ⊢
 rw[←hO] at alo ahi ala olen
 refine fnN (cs:=Ql3) func179 rfl (by kernel_rfl) ?_
 intro w0 g0
 generalize hp:std=p,hbb:Q5 bs=bb
 generalize hT:Q8 p tys (Ql3) _ _ _ _=T
 cbv at hT
 subst hT
 simp only[Tree.ok,Q4,S0]
 subst hp hbb
 have enb:=hnb.eq
 have enr:=hnr.eq
 have hbl:=Q1A bs
 have hON:((O.length:Nat):Int)=nr+1:=by omega
 have hON2:((O.length:Nat):Int)-1=nr:=by omega
 have ala:O[nr.toNat]?.getD .dead=.val (.int .i64 nb):=by rw[show nr.toNat=t.r.length by omega,enb];exact ala
 have hbn:(((Q5 bs).length:Nat):Int)=nb:=by omega
 have hl':std.int (std.nth (std.cel (std.at_ O i)) 0)=lo:=by simp[std,alo,AV.cells,Qg]
 have hh':std.int (std.nth (std.cel (std.at_ O j)) 0)=hi:=by simp[std,ahi,AV.cells,Qg]
 repeat' first
  |(with_reducible refine And.intro (fun hx=>absurd hx (by first|(try simp[std,S1,cI,alo,ahi,ala,hON,hON2,hbn,hlo0,hle,hhin])<;>omega|omega)) (fun _=>?_))
  |(with_reducible refine And.intro (fun _=>?_) (fun hx=>absurd hx (by first|(try simp[std,S1,cI,alo,ahi,ala,hON,hON2,hbn,hlo0,hle,hhin])<;>omega|omega)))
  |(with_reducible refine And.intro (by first|(try simp[std,S1,cI,alo,ahi,ala,hON,hON2,hbn,hlo0,hle,hhin])<;>omega|omega) ?_)
  |(with_reducible refine And.intro ?_ ?_)
  |(with_reducible intro hb)
 ·show BCall _ _ [.slc 1 (std.cut (Q5 bs) (std.int (std.nth (std.cel (std.at_ O i)) 0)) (std.int (std.nth (std.cel (std.at_ O j)) 0)))] [] (.slc 1 (std.cut (Q5 bs) (std.int (std.nth (std.cel (std.at_ O i)) 0)) (std.int (std.nth (std.cel (std.at_ O j)) 0)))) []
  rw[hl',hh'];exact cC
 ·refine .pure rfl (.inl ?_)
  show AV.slc 1 (std.cut (Q5 bs) (std.int (std.nth (std.cel (std.at_ O i)) 0)) (std.int (std.nth (std.cel (std.at_ O j)) 0)))=_
  rw[hl',hh']
theorem Qiv (x y:List Int)(hx:x.length≤1000000000)(hy:y.length≤1000000000):BCall prog 178 [.slc 1 (Q1 x),.slc 1 (Q1 y)] [] (.val (.bool (decide (x=y)))) []:=by
 obtain⟨n,hn⟩:=QX x
 obtain⟨m,hm⟩:=QX y
 obtain⟨e,he⟩:=exq (decide (x=y))
 rw[←he]
 have hxl:=Q13 x
 have hyl:=Q13 y
 refine fnN (cs:=cs0) func178 rfl (by kernel_rfl) ?_
 intro w0 g0
 generalize hp:std=p,hrx:Q1 x=rx,hry:Q1 y=ry
 generalize hT:Q8 p tys (cs0) _ _ _ _=T
 cbv at hT
 subst hT
 simp only[Tree.ok,Q4,S0]
 subst hp hrx hry
 have en:=hn.eq
 have em:=hm.eq
 have hxn:(((Q1 x).length:Nat):Int)=n:=by omega
 have hyn:(((Q1 y).length:Nat):Int)=m:=by omega
 refine⟨fun h=>?_,fun h=>?_⟩
 ·have h:¬ n=m:=by simpa[std,hxn,hyn] using h
  refine .pure rfl (.inl ?_)
  rw[he,decide_eq_false (fun h2=>h (by rw[en,em,h2]))]
 ·have h:n=m:=by simpa[std,hxn,hyn] using h
  refine Q1P (cs:=cs0) (by kernel_rfl) (X:=Int) (fun i=>⟨[(0,.slc 1 (Q1 x)),(1,.slc 1 (Q1 y)),(12,.val (.int .i64 n)),(13,.val (.int .i64 i))],[]⟩) (fun i=>0≤i∧i≤n∧∀ j:Nat,(j:Int)<i→x[j]?.getD 0=y[j]?.getD 0) (fun i=>(n-i).toNat) 0 ?_ ?_ ?_
  ·exact⟨by omega,by omega,fun j hj=>by omega⟩
  ·exact⟨[],_,rfl,by simp[Qh,lk,std,hxn]⟩
  ·rintro i ⟨hi0,hin,hi⟩
   have hi':∀ j:Nat,j<i.toNat→x[j]?.getD 0=y[j]?.getD 0:=fun j hj=>hi j (by omega)
   clear hi
   rcases Int.lt_or_eq_of_le hin with hlt|heq
   ·have ax:=Q3k (l:=x) hi0 (by omega)
    have ay:=Q3k (l:=y) hi0 (by omega)
    have hltm:i<m:=by omega
    clear en em h hxn hyn
    generalize hp:std=p,hrx:Q1 x=rx,hry:Q1 y=ry
    generalize hT:Q8 p tys (cs0) _ _ _ _=T
    cbv at hT
    subst hT
    simp only[Tree.ok,Q4,S0]
    subst hp hrx hry
    have en:=hn.eq
    have em:=hm.eq
    have hxn:(((Q1 x).length:Nat):Int)=n:=by omega
    have hyn:(((Q1 y).length:Nat):Int)=m:=by omega
    repeat' first
     |(with_reducible refine And.intro (fun hx=>absurd hx (by first|(try simp[std,S1,ax,ay,hxn,hyn,hlt,hltm,hi0])<;>omega|omega)) (fun _=>?_))
     |(with_reducible refine And.intro (fun _=>?_) (fun hx=>absurd hx (by first|(try simp[std,S1,ax,ay,hxn,hyn,hlt,hltm,hi0])<;>omega|omega)))
     |(with_reducible refine And.intro (by first|(try simp[std,S1,ax,ay,hxn,hyn,hlt,hltm,hi0])<;>omega|omega) ?_)
     |(with_reducible refine And.intro ?_ ?_)
     |(with_reducible intro hb)
    ·have hne:¬ x[i.toNat]?.getD 0=y[i.toNat]?.getD 0:=by simpa[std,ax,ay,AV.cells,Qg] using hb
     generalize hp:std=p,hrx:Q1 x=rx,hry:Q1 y=ry
     generalize hT:Q5B p tys _ _ _ _=T
     cbv at hT
     subst hT
     simp only[Tree.ok,Q4,S0]
     subst hp hrx hry
     refine .pure rfl (.inl ?_)
     rw[he,decide_eq_false (fun h2=>hne (by rw[h2]))]
    ·have heq:x[i.toNat]?.getD 0=y[i.toNat]?.getD 0:=by simpa[std,ax,ay,AV.cells,Qg] using hb
     refine⟨i+1,⟨by omega,by omega,fun j hj=>?_⟩,by omega,[],_,rfl,by simp[Qh,lk,std]⟩
     have hj:(j:Int)<i+1:=hj
     by_cases hji:j<i.toNat
     ·exact hi' j hji
     ·obtain rfl:j=i.toNat:=by omega
      exact heq
   ·have hxy:x=y:=by
     refine List.ext_getElem (by omega) fun j h1 h2=>?_
     have:=hi' j (by omega)
     rw[List.getElem?_eq_getElem h1,List.getElem?_eq_getElem h2] at this
     exact this
    clear en em h hxn hyn
    generalize hp:std=p,hrx:Q1 x=rx,hry:Q1 y=ry
    generalize hT:Q8 p tys (cs0) _ _ _ _=T
    cbv at hT
    subst hT
    simp only[Tree.ok,Q4,S0]
    subst hp hrx hry
    repeat' first
     |(with_reducible refine And.intro (fun hx=>absurd hx (by first|(try simp[std,S1,heq])<;>omega|omega)) (fun _=>?_))
     |(with_reducible refine And.intro (fun _=>?_) (fun hx=>absurd hx (by first|(try simp[std,S1,heq])<;>omega|omega)))
     |(with_reducible refine And.intro (by first|(try simp[std,S1,heq])<;>omega|omega) ?_)
     |(with_reducible refine And.intro ?_ ?_)
     |(with_reducible intro hb)
    rw[if_pos trivial]
    generalize hp:std=p,hrx:Q1 x=rx,hry:Q1 y=ry
    generalize hT:Q8 p tys cs0 _ _ _ _=T
    cbv at hT
    subst hT
    simp only[Tree.ok,Q4,S0]
    subst hp hrx hry
    refine .pure rfl (.inl ?_)
    rw[he,decide_eq_true hxy]
end Go.Proofs.YtibemhahkicbpaaGreat
namespace Go.Proofs.YtibemhahkicbpaaGreat
open Go.RowKit Go.Lib
def Q8j:Int→List Itm→Int→Prop
 |a,[],e=>a=e
 |a,x::r,e=>x.off=a∧1≤x.n∧Q8j (a+x.n) r e
theorem QcP (big:Bool):∀ (n:Nat) (l:List UInt8) (a:Int),l.length≤n→Q8j a (Q1M big a l) (a+l.length):=by
 intro n
 induction n with
 |zero =>
  intro l a h
  have:l=[]:=List.eq_nil_of_length_eq_zero (by omega)
  subst this
  rw[Q1M,dif_pos rfl]
  show a=_
  simp
 |succ n ih =>
  intro l a h
  by_cases hl:l=[]
  ·subst hl
   rw[Q1M,dif_pos rfl]
   show a=_
   simp
  ·have hs:=Q6E big l hl
   rw[Q1M,dif_neg hl]
   refine⟨rfl,hs.1,?_⟩
   have:=ih (l.drop (Q17 big l).2.toNat) (a+(Q17 big l).2) (by rw[List.length_drop];omega)
   rw[List.length_drop] at this
   rw[show a+(Q17 big l).2+((l.length-(Q17 big l).2.toNat:Nat):Int)=a+l.length by omega] at this
   exact this
theorem Qg5 (l:List UInt8)(h:l≠[]):1≤(Ql l).2∧(Ql l).2≤l.length:=by
 have hl:0<l.length:=List.length_pos_iff.2 h
 unfold Ql
 split
 ·exact⟨Nat.le_refl _,hl⟩
 ·exact⟨decodeL_width _,decodeL_le _ h⟩
theorem QcB:∀ (n off:Nat) (l:List UInt8),l.length≤n→Q8j off ((Q1u n off l).map Qe6) (off+l.length:Int):=by
 intro n
 induction n with
 |zero =>
  intro off l h
  have:l=[]:=List.eq_nil_of_length_eq_zero (by omega)
  subst this
  show (off:Int)=_
  simp
 |succ n ih =>
  intro off l h
  cases l with
  |nil=>show (off:Int)=_;simp
  |cons b t =>
   have hs:=Qg5 (b::t) (by simp)
   refine⟨rfl,by show (1:Int)≤((Ql (b::t)).2:Int);omega,?_⟩
   have:=ih (off+(Ql (b::t)).2) ((b::t).drop (Ql (b::t)).2) (by rw[List.length_drop];omega)
   rw[List.length_drop] at this
   rw[show ((off+(Ql (b::t)).2:Nat):Int)+(((b::t).length-(Ql (b::t)).2:Nat):Int)=off+(b::t).length by omega,show ((off+(Ql (b::t)).2:Nat):Int)=off+(Ql (b::t)).2 by omega] at this
   exact this
theorem Q9S:∀ (ps:List Itm) (a e:Int),Q8j a ps e→(ps.length:Int)≤e-a∧(∀ x∈ps.map Itm.off++[e],a≤x∧x≤e)∧List.Pairwise (·≤·) (ps.map Itm.off++[e])∧(ps.map Itm.off++[e])[0]?=some a
 | [],a,e,h=>by
  have h:a=e:=h
  subst h
  simp
 |x::r,a,e,h=>by
  obtain⟨h1,h2,h3⟩:=h
  obtain⟨h4,h5,h6,h7⟩:=Q9S r _ e h3
  refine⟨by simp only[List.length_cons];omega,fun y hy=>?_,?_,by simp[h1]⟩
  ·simp only[List.map_cons,List.cons_append,List.mem_cons] at hy
   rcases hy with rfl|hy
   ·have:=h5 e (by simp);omega
   ·have:=h5 y hy;omega
  ·simp only[List.map_cons,List.cons_append]
   exact List.pairwise_cons.2 ⟨fun y hy=>by have:=h5 y hy;omega,h6⟩
theorem Q4S (b:List UInt8):(QI b).1=0∨(QI b).1=1∨(QI b).1=2:=by
 have key:∀ (x:List UInt8×Int×Int),x∈signsL→x.2.1=0∨x.2.1=1∨x.2.1=2:=by decide
 unfold QI kR
 split
 ·rename_i x hx
  exact key x (by simpa using List.mem_of_find?_eq_some hx)
 ·exact .inl rfl
theorem Qdh (b:List UInt8):Q8j 0 (Q2S b) (b.length-(QI b).2):=by
 have hb:=Q4b b
 have hl:(((b.drop (QI b).2.toNat).length:Nat):Int)=b.length-(QI b).2:=by rw[List.length_drop];omega
 have h8:=QcB _ 0 (b.drop (QI b).2.toNat) (Nat.le_refl _)
 have hw:=fun big=>QcP big _ (b.drop (QI b).2.toNat) 0 (Nat.le_refl _)
 rw[hl,Int.zero_add] at hw
 rw[hl,show ((0:Nat):Int)=0 from rfl,Int.zero_add] at h8
 rw[Q2S]
 rcases Q4S b with h|h|h
 ·rw[Q4E,if_pos h];exact h8
 ·rw[Q4E,if_neg (by omega),if_pos h];exact hw true
 ·rw[Q4E,if_neg (by omega),if_neg (by omega),if_pos h];exact hw false
theorem Qcm (b:List UInt8):(Q6 b).off=((Q2S b).map Itm.off++[(b.length:Int)-(QI b).2]).map (· + (QI b).2):=by
 show (Q2S b).map _++[(b.length:Int)]=_
 simp
theorem Q2y (b:List UInt8):TxtOk (Q6 b) b∧(Q6 b).off[0]?.getD 0=(QI b).2∧(Q6 b).r.length≤b.length∧(Q2S b).length≤b.length∧∀ x∈Q2S b,0≤x.off∧x.off≤b.length:=by
 have hb:=Q4b b
 obtain⟨h1,h2,h3,h4⟩:=Q9S _ _ _ (Qdh b)
 have hr:(Q6 b).r.length=(Q2S b).length:=by show ((Q2S b).map Itm.r).length=_;simp
 have ho:=Qcm b
 generalize hL:(Q2S b).map Itm.off++[(b.length:Int)-(QI b).2]=L at h2 h3 h4 ho
 have hLl:L.length=(Q2S b).length+1:=by rw[←hL];simp
 have hlast:L[(Q2S b).length]?=some ((b.length:Int)-(QI b).2):=by rw[←hL,List.getElem?_append_right (by simp)];simp
 refine⟨⟨by rw[ho,hr,List.length_map,hLl],fun x hx=>?_,?_,fun i j hij hj=>?_⟩,?_,by omega,by omega,fun x hx=>?_⟩
 ·rw[ho] at hx
  obtain⟨y,hy,rfl⟩:=List.mem_map.1 hx
  have:=h2 y hy;omega
 ·rw[ho,hr,List.getElem?_map,hlast]
  show (b.length:Int)-(QI b).2+(QI b).2=_
  omega
 ·have hi1:i<L.length:=by omega
  have hj1:j<L.length:=by omega
  rw[ho,List.getElem?_map,List.getElem?_map,List.getElem?_eq_getElem hi1,List.getElem?_eq_getElem hj1]
  show L[i]+_≤L[j]+_
  rcases Nat.lt_or_eq_of_le hij with h|h
  ·have:=List.pairwise_iff_getElem.1 h3 i j hi1 hj1 h
   omega
  ·subst h;exact Int.le_refl _
 ·rw[ho,List.getElem?_map,h4]
  show (0:Int)+_=_
  omega
 ·have:=h2 x.off (by rw[←hL];exact List.mem_append_left _ (List.mem_map.2 ⟨x,hx,rfl⟩))
  omega
end Go.Proofs.YtibemhahkicbpaaGreat
