/- Lemmas, conditions told -/
import Derived.Lib.Split
import Derived.Test.YtibemhahkicbpaaGreatL04
import Derived.Test.YtibemhahkicbpaaGreatL09
import Derived.Laws.StructEq
import Derived.WideShapes
set_option maxRecDepth 99999
set_option maxHeartbeats 0
set_option linter.unusedSimpArgs false
set_option linter.unusedVariables false
namespace Go.Proofs.YtibemhahkicbpaaGreat
open List(map_cons mem_map length_take drop_zero map_take take_of_length_le drop_succ_cons find?_cons length_append getElem_drop getD_eq_getElem?_getD getElem?_eq_getElem getElem?_take length_map length_drop map_drop drop_drop take_add_one map_append getElem?_map map_set)
open Lib(hid)
open Nat(le_refl add_assoc zero_add)
open Go.RowKit Go.Lib
section
open Tryz
def Q1T(s t:ByteArray):Bool:=decide (t.size<=s.size)&&(s.data.toList.take t.size == t.data.toList)
theorem Qhh{s t:ByteArray}(h:t.size<=s.size):std.eqS (std.cutS s 0 (std.szS t)) t=Q1T s t:=by
 simp only[std,Q1T,h,decide_true,Bool.true_and,ByteArray.toList_eq];rw[show(0:Int).toNat=0 from rfl,Int.toNat_natCast,extract_from_zero]
theorem QnX(s t:ByteArray):BCall prog 173 [.val (.string s),.val (.string t)] [] (.val (.bool (Q1T s t))) []:=by
 refine fnN (cs0) func173 rfl fun _ _=>?_
 with_reducible refine cv0 ?_
 refine⟨fun h=>⟨?_,.pure rfl (.inl ?_)⟩,fun h=>.pure rfl (.inl ?_)⟩
 ·have h:t.size<=s.size:=by simpa[std]using h
  simp[std];omega
 ·have h:t.size<=s.size:=by simpa[std]using h
  show AV.val (.bool (std.eqS (std.cutS s 0 (std.szS t)) t))=_;rw[Qhh h]
 ·have h:¬t.size<=s.size:=by simpa[std]using h
  simp[Q1T,h]
def Q6b(pre:ByteArray->ByteArray->Bool):Nat->List AV->List Ob->Option (AV×List Ob):=fun f args _=>match f,args with
 |173,[.val (.string s),.val (.string t)]=>some (.val (.bool (pre s t)),[])
 |132,[.val (.string s),.val (.string t)]=>some (.val (.bool (pre s t)),[])
 |_,_=>none
theorem QkP(s t:ByteArray):BCall prog 132 [.val (.string s),.val (.string t)] [] (.val (.bool (Q1T s t))) []:=by
 refine fnN (Q6b Q1T) func132 rfl fun _ _=>?_
 with_reducible refine cv1 Q1T ?_
 exact⟨QnX s t,.pure rfl (.inl rfl)⟩
def signsL:List (List UInt8×Int×Int):=[([254,255],1,2),([255,254],2,2),([239,187,191],0,3),([0,60,0,63],1,0),([60,0,63,0],2,0)]
def kR(pre:List UInt8->Bool)(k:Nat):Int×Int:=match(signsL.drop k).find? (fun x=>pre x.1)with
 |some x=>x.2
 |none=>(0,0)
def QX(b:List UInt8):Int×Int:=kR (fun t=>t.isPrefixOf b) 0
theorem Q3u(l:List UInt8):(Q2 l).map Q35=l:=by
 induction l with
 |nil=>rfl
 |cons x r ih=>rw[Q2,map_cons,map_cons];rw[Q2]at ih;rw[ih];simp[Q6g,Q35]
theorem QaC(l:List UInt8):std.isB (Q2 l):=fun x hx=>by
 obtain⟨n,_,rfl⟩:=mem_map.1 hx;exact⟨n,rfl⟩
theorem Qkd(b t:List UInt8)(h:t.length<=4):Q1T ⟨(b.take 4).toArray⟩ ⟨t.toArray⟩=t.isPrefixOf b:=by
 have e:Q1T ⟨(b.take 4).toArray⟩ ⟨t.toArray⟩=(decide (t.length<=(b.take 4).length)&&((b.take 4).take t.length == t)):=rfl;rw[e,Bool.eq_iff_iff,List.isPrefixOf_iff_prefix,List.prefix_iff_eq_take];simp only[List.take_take,length_take,Bool.and_eq_true,decide_eq_true_eq,beq_iff_eq,Nat.min_eq_left h];constructor
 ·exact fun h=>h.2.symm
 ·intro h1
  have:t.length<=b.length:=by
   have:=congrArg List.length h1
   rw[length_take]at this;omega
  exact⟨by omega,h1.symm⟩
theorem Qmc(b:List UInt8):BCall prog 84 [.slc 1 (Q2 b)] [] (.tup [.val (.int .i64 (QX b).1),.val (.int .i64 (QX b).2)]) []:=by
 refine fnN (Q6b Q1T) func84 rfl fun _ _=>?_
 with_reducible refine cv2 Q1T (Q2 b) ?_
 have jW:=Q11 b;have yw:std.minI (std.len (Q2 b)) 4=if 4<(b.length:Int)then 4 else(b.length:Int):=by simp only[std,jW]
 have jS:std.cut (Q2 b) 0 (std.minI (std.len (Q2 b)) 4)=Q2 (b.take 4):=by
  rw[yw];show((Q2 b).drop (0:Int).toNat).take _=_
  rw[show(0:Int).toNat=0 from rfl,drop_zero,Q2,Q2,map_take];split
  ·rfl
  ·have:b.length<=4:=by omega
   rw[take_of_length_le (by simp),take_of_length_le (by simpa using this)]
 refine⟨?_,?_,?_⟩
 ·simp only[std,jW]
  split<;>omega
 ·show std.isB (std.cut (Q2 b) 0 (std.minI (std.len (Q2 b)) 4))
  rw[jS];exact QaC _
 have po:std.strB (std.cut (Q2 b) 0 (std.minI (std.len (Q2 b)) 4))=⟨(b.take 4).toArray⟩:=by
  rw[jS];show(⟨((Q2 (b.take 4)).map Q35).toArray⟩:ByteArray)=_
  rw[Q3u]
 obtain⟨s,hs⟩:=exq (⟨(b.take 4).toArray⟩:ByteArray);have zr:∀t:List UInt8,t.length<=4->t.isPrefixOf b=Q1T s ⟨t.toArray⟩:=fun t h=>by rw[hs,Qkd b t h]
 have hR:QX b=kR (fun t=>Q1T s ⟨t.toArray⟩) 0:=by
  simp[QX,kR,signsL,List.find?,zr [254,255] (by decide),zr [255,254] (by decide),zr [239,187,191] (by decide),zr [0,60,0,63] (by decide),zr [60,0,63,0] (by decide)]
 rw[hR];obtain⟨R,hRE⟩:=exq (kR (fun t=>Q1T s ⟨t.toArray⟩) 0)
 rw[<-hRE];obtain⟨R1,R2⟩:=R;refine Q1h (Q6b Q1T) (Int) (fun k=>⟨[(5,.val (.string s)),(20,.agg [.val (.string ⟨#[254,255]⟩),.val (.int .i64 1),.val (.int .i64 2),.val (.string ⟨#[255,254]⟩),.val (.int .i64 2),.val (.int .i64 2),.val (.string ⟨#[239,187,191]⟩),.val (.int .i64 0),.val (.int .i64 3),.val (.string ⟨#[0,60,0,63]⟩),.val (.int .i64 1),.val (.int .i64 0),.val (.string ⟨#[60,0,63,0]⟩),.val (.int .i64 2),.val (.int .i64 0)]),(21,.val (.int .i64 k))],[]⟩) (fun k=>0<=k/\k<=5/\(R1,R2)=kR (fun t=>Q1T s ⟨t.toArray⟩) k.toNat) (fun k=>(5-k).toNat) 0 ?_ ?_ ?_
 ·exact⟨by omega,by omega,hRE⟩
 ·refine⟨[],_,rfl,?_,?_⟩
  ·show AV.val (.string (std.strB (std.cut (Q2 b) 0 (std.minI (std.len (Q2 b)) 4))))=.val (.string s)
   rw[po,<-hs]
  ·repeat first|exact trivial|refine⟨rfl,?_⟩
 ·rintro k ⟨qO,hk5,hk⟩
  have hcs:k=0\/k=1\/k=2\/k=3\/k=4\/k=5:=by omega
  clear hR zr hRE po jS jW hs yw;rcases hcs with rfl|rfl|rfl|rfl|rfl|rfl
  ·with_reducible refine cv1 Q1T ?_
   with_reducible repeat' first|refine aU hk ?_|refine zA ?_ ?_|intro hb
   ·exact QkP _ _
   ·with_reducible refine cv1 Q1T ?_
    simp[kR,signsL,List.find?,hb]at hk;exact .pure rfl ⟨.inl (by rw[hk.1]),.inl (by rw[hk.2]),trivial⟩
   ·refine⟨1,⟨by omega,by omega,?_⟩,by omega,[],_,rfl,?_⟩
    ·rw[hk]
     simp only[kR,signsL,Int.reduceToNat,drop_succ_cons,drop_zero,find?_cons,hb]
    ·simp[Qe,lk,std]
  ·with_reducible refine cv1 Q1T ?_
   with_reducible repeat' first|refine aU hk ?_|refine zA ?_ ?_|intro hb
   ·exact QkP _ _
   ·with_reducible refine cv1 Q1T ?_
    simp[kR,signsL,List.find?,hb]at hk;exact .pure rfl ⟨.inl (by rw[hk.1]),.inl (by rw[hk.2]),trivial⟩
   ·refine⟨2,⟨by omega,by omega,?_⟩,by omega,[],_,rfl,?_⟩
    ·rw[hk]
     simp only[kR,signsL,Int.reduceToNat,drop_succ_cons,drop_zero,find?_cons,hb]
    ·simp[Qe,lk,std]
  ·with_reducible refine cv1 Q1T ?_
   with_reducible repeat' first|refine aU hk ?_|refine zA ?_ ?_|intro hb
   ·exact QkP _ _
   ·with_reducible refine cv1 Q1T ?_
    simp[kR,signsL,List.find?,hb]at hk;exact .pure rfl ⟨.inl (by rw[hk.1]),.inl (by rw[hk.2]),trivial⟩
   ·refine⟨3,⟨by omega,by omega,?_⟩,by omega,[],_,rfl,?_⟩
    ·rw[hk]
     simp only[kR,signsL,Int.reduceToNat,drop_succ_cons,drop_zero,find?_cons,hb]
    ·simp[Qe,lk,std]
  ·with_reducible refine cv1 Q1T ?_
   with_reducible repeat' first|refine aU hk ?_|refine zA ?_ ?_|intro hb
   ·exact QkP _ _
   ·with_reducible refine cv1 Q1T ?_
    simp[kR,signsL,List.find?,hb]at hk;exact .pure rfl ⟨.inl (by rw[hk.1]),.inl (by rw[hk.2]),trivial⟩
   ·refine⟨4,⟨by omega,by omega,?_⟩,by omega,[],_,rfl,?_⟩
    ·rw[hk]
     simp only[kR,signsL,Int.reduceToNat,drop_succ_cons,drop_zero,find?_cons,hb]
    ·simp[Qe,lk,std]
  ·with_reducible refine cv1 Q1T ?_
   with_reducible repeat' first|refine aU hk ?_|refine zA ?_ ?_|intro hb
   ·exact QkP _ _
   ·with_reducible refine cv1 Q1T ?_
    simp[kR,signsL,List.find?,hb]at hk;exact .pure rfl ⟨.inl (by rw[hk.1]),.inl (by rw[hk.2]),trivial⟩
   ·refine⟨5,⟨by omega,by omega,?_⟩,by omega,[],_,rfl,?_⟩
    ·rw[hk]
     simp only[kR,signsL,Int.reduceToNat,drop_succ_cons,drop_zero,find?_cons,hb]
    ·simp[Qe,lk,std]
  ·with_reducible refine cv1 Q1T ?_
   with_reducible repeat' first|refine aU hk ?_|refine zA ?_ ?_|intro hb
   rw[if_pos trivial];with_reducible refine cv1 Q1T ?_
   simp[kR,signsL]at hk;exact .pure rfl ⟨.inl (by rw[hk.1]),.inl (by rw[hk.2]),trivial⟩
section
variable {w:World}{g:Gh}{v:Value}
theorem Q4j{l:List Int}(h:ARel1 w g [] v (.slc 1 (Q0 l)))(M:Mem w g []):∃A c,v=.slice A l.length c/\Rd w (fun _=>True) 1 A l.length c (rc l):=by
 obtain⟨A,c,ys,h1,h2,h3⟩:=QnT h M;have e:Q0 l=(rc l).map .val:=by simp[Q0,rc,QgR]
 rw[e,Qai]at h3;obtain rfl:=QbZ h3;rw[Qx]at h1 h2;exact⟨A,c,h1,h2⟩
theorem Qef{l:List UInt8}(h:ARel1 w g [] v (.slc 1 (Q2 l)))(M:Mem w g []):∃A c,v=.slice A l.length c/\Rd w (fun _=>True) 1 A l.length c (bc l):=by
 obtain⟨A,c,ys,h1,h2,h3⟩:=QnT h M;have e:Q2 l=(bc l).map .val:=by simp[Q2,bc,Q6g]
 rw[e,Qai]at h3;obtain rfl:=QbZ h3;rw[Q11]at h1 h2;exact⟨A,c,h1,h2⟩
end
theorem Qpm(l:List Int)(from_:Int)(p:Int->Bool)(f:Nat)(ef:∀args w,(callFunc f args).run prog w=.ok (.enter f args) w)(hp:∀w,Q7L prog f #[] p w) :
  BCall prog 176 [.slc 1 (Q0 l),.val (.int .i64 from_),.val (.func (.func f) #[] #[])] [] (.val (.int .i64 (Q2X p l from_))) []:=by
 refine BCall.hand (enters_of func176 (by kernel_rfl) rfl) fun w g vs M hL=>?_
 obtain⟨v1,vs1,rfl,h1,hL⟩:=Q13 hL;obtain⟨v2,vs2,rfl,h2,hL⟩:=Q13 hL;obtain⟨v3,vs3,rfl,h3,hL⟩:=Q13 hL;obtain rfl:=Q2A hL;obtain⟨A,c,rfl,hr⟩:=Q4j h1 M;obtain rfl:=Q31 h2;obtain rfl:=Q31 h3;exact(Q8g _ A _ c l from_ f #[] p w ef hr (hp w)).mono fun e w' ⟨h,hb⟩=>⟨_,h,hb,PRel.val _ rfl⟩
theorem QoO(l:List Int)(k:Int)(h0:0<=k)(hk:k<=1000000000):BCall prog 183 [.slc 1 (Q0 l),.val (.int .i64 k)] [] (.val (.int .i64 (Qj l k.toNat))) []:=by
 refine BCall.hand (enters_of func183 (by kernel_rfl) rfl) fun w g vs M hL=>?_
 obtain⟨v1,vs1,rfl,h1,hL⟩:=Q13 hL;obtain⟨v2,vs2,rfl,h2,hL⟩:=Q13 hL;obtain rfl:=Q2A hL;obtain⟨A,c,rfl,hr⟩:=Q4j h1 M;obtain rfl:=Q31 h2;have:=Q78 _ A _ c l k.toNat w hr (by omega)
 rw[Int.toNat_of_nonneg h0]at this;exact this.mono fun e w' ⟨h,hb⟩=>⟨_,h,hb,PRel.val _ rfl⟩
theorem Qld(l:List Int)(hl:l.length<=1000000000)(k:Int)(h0:0<=k)(hk:k<=l.length)(s:ByteArray)(hs:s.size<=1000000000):BCall prog 185 [.slc 1 (Q0 l),.val (.int .i64 k),.val (.string s)] [] (.val (.bool (Q6 l k.toNat s.data.toList))) []:=by
 refine BCall.hand (enters_of func185 (by kernel_rfl) rfl) fun w g vs M hL=>?_
 obtain⟨v1,vs1,rfl,h1,hL⟩:=Q13 hL;obtain⟨v2,vs2,rfl,h2,hL⟩:=Q13 hL;obtain⟨v3,vs3,rfl,h3,hL⟩:=Q13 hL;obtain rfl:=Q2A hL;obtain⟨A,c,rfl,hr⟩:=Q4j h1 M;obtain rfl:=Q31 h2;obtain rfl:=Q31 h3;have:=Q24 _ A _ c l k.toNat s w hr (by omega) hl hs
 rw[Int.toNat_of_nonneg h0]at this;exact this.mono fun e w' ⟨h,hb⟩=>⟨_,h,hb,PRel.val _ rfl⟩
structure Tok where
 kind:Int
 from_:Int
 to:Int
 whole:Bool
 deriving Inhabited
def Tok.av(t:Tok):AV:=.agg [.val (.int .i64 t.kind),.val (.int .i64 t.from_),.val (.int .i64 t.to),.val (.bool t.whole)]
def Q1m(l:List Int)(k:Nat):Tok:=⟨(Ql l k).1,k,(Ql l k).2.1,(Ql l k).2.2⟩
theorem QoW(l:List Int)(hl:l.length<=1000000000)(k:Int)(h0:0<=k)(hk:k<l.length):BCall prog 133 [.slc 1 (Q0 l),.val (.int .i64 k)] [] (.tup [(Q1m l k.toNat).av,.val (.bool true)]) []:=by
 refine BCall.hand (enters_of func133 (by kernel_rfl) rfl) fun w g vs M hL=>?_
 obtain⟨v1,vs1,rfl,h1,hL⟩:=Q13 hL;obtain⟨v2,vs2,rfl,h2,hL⟩:=Q13 hL;obtain rfl:=Q2A hL;obtain⟨A,c,rfl,hr⟩:=Q4j h1 M;obtain rfl:=Q31 h2;have:=QhE _ A _ c l k.toNat w hr (by omega) hl
 rw[Int.toNat_of_nonneg h0]at this;refine this.mono fun e w' ⟨h,hb⟩=>⟨_,h,hb,_,rfl,rfl,fun j y u hy hu=>?_⟩
 match j,hy,hu with
 |0,hy,hu =>
  obtain rfl:Q25 (Ql l k.toNat) k.toNat=y:=by simpa using hy
  obtain rfl:(Q1m l k.toNat).av=u:=by simpa using hu
  refine⟨_,rfl,rfl,fun i y u hy hu=>?_⟩
  match i,hy,hu with
  |0,hy,hu=>cases hy;cases hu;exact⟨PRel.val _ rfl,rfl⟩
  |1,hy,hu=>cases hy;cases hu;exact⟨PRel.val _ rfl,rfl⟩
  |2,hy,hu=>cases hy;cases hu;exact⟨PRel.val _ rfl,rfl⟩
  |3,hy,hu=>cases hy;cases hu;exact⟨PRel.val _ rfl,rfl⟩
  |i+4,hy,hu=>simp at hy
 |1,hy,hu =>
  obtain rfl:Value.bool true=y:=by simpa using hy
  obtain rfl:AV.val (.bool true)=u:=by simpa using hu
  exact PRel.val _ rfl
 |j+2,hy,hu=>simp at hy
theorem Qif(l:List Int)(k:Int)(h0:0<=k)(hk:(l.length:Int)<=k):BCall prog 133 [.slc 1 (Q0 l),.val (.int .i64 k)] [] (.tup [.agg [.val (.int .i64 0),.val (.int .i64 0),.val (.int .i64 0),.val (.bool false)],.val (.bool false)]) []:=by
 obtain⟨n,hn⟩:=QE l;have yA:n<=k:=by rw[hn.eq];exact hk
 refine fnN (cs0) func133 rfl fun _ _=>?_
 with_reducible refine cv1 (Q0 l) ?_
 have en:=hn.eq;have qd:=Qx l;with_reducible repeat' first|refine aU (zA qd h0) ?_|refine zA ?_ ?_|intro hb
 exact .pure rfl ⟨⟨.inl rfl,.inl rfl,.inl rfl,.inl rfl,trivial⟩,.inl rfl,trivial⟩
def QA(l:List Tok):List AV:=l.map Tok.av
theorem Q5G(l:List Tok):(QA l).length=l.length:=by simp[QA]
theorem Qei(a b:List Tok):QA (a++b)=QA a++QA b:=by simp[QA]
theorem QdL(t:Tok):QA [t]=[.agg [.val (.int .i64 t.kind),.val (.int .i64 t.from_),.val (.int .i64 t.to),.val (.bool t.whole)]]:=rfl
def Qq3(t:(Nat×Nat×Bool)×Nat):Tok:=⟨t.1.1,t.2,t.1.2.1,t.1.2.2⟩
def Q1S(l:List Int)(k:Nat):List Tok:=(Q4Z l k).map Qq3
def Q1r(l:List Int):List Tok:=Q1S l 0
theorem Q1O{l:List Int}{k:Nat}(h:k<l.length):Q1S l k=Q1m l k::Q1S l (Ql l k).2.1:=by
 rw[Q1S,QbC l k h];rfl
theorem Q1k{l:List Int}{k:Nat}(h:¬k<l.length):Q1S l k=[]:=by rw[Q1S,Qdg l k h];rfl
def Q4v(l:List Int)(k:Int):Tok:=if 0<=k/\k<l.length then Q1m l k.toNat else⟨0,0,0,false⟩
def Q98(l:List Int)(k:Int):Bool:=decide (0<=k/\k<l.length)
theorem Ql1(l:List Int)(hl:l.length<=1000000000)(k:Int)(h0:0<=k):BCall prog 133 [.slc 1 (Q0 l),.val (.int .i64 k)] [] (.tup [.agg [.val (.int .i64 (Q4v l k).kind),.val (.int .i64 (Q4v l k).from_),.val (.int .i64 (Q4v l k).to),.val (.bool (Q4v l k).whole)],.val (.bool (Q98 l k))]) []:=by
 by_cases h:k<l.length
 ·rw[Q4v,if_pos ⟨h0,h⟩,Q98,decide_eq_true ⟨h0,h⟩]
  exact QoW l hl k h0 h
 ·have:¬(0<=k/\k<l.length):=fun x=>h x.2
  rw[Q4v,if_neg this,Q98,decide_eq_false this];exact Qif l k h0 (by omega)
def csN(kd fr to:Int->Int)(wh ok:Int->Bool):Nat->List AV->List Ob->Option (AV×List Ob):=fun f args _=>match f,args with
 |133,[.slc 1 _,.val (.int .i64 k)]=>some (.tup [.agg [.val (.int .i64 (kd k)),.val (.int .i64 (fr k)),.val (.int .i64 (to k)),.val (.bool (wh k))],.val (.bool (ok k))],[])
 |_,_=>none
theorem QeJ(l:List Int)(hl:l.length<=1000000):BCall prog 87 [.slc 1 (Q0 l)] [] (.slc 4 (QA (Q1r l))) []:=by
 have ny:=fun k h0=>Ql1 l (by omega) k h0
 obtain⟨kd,jD⟩:=exq (fun k=>(Q4v l k).kind:Int->Int)
 obtain⟨fr,vO⟩:=exq (fun k=>(Q4v l k).from_:Int->Int)
 obtain⟨to,gZ⟩:=exq (fun k=>(Q4v l k).to:Int->Int)
 obtain⟨wh,ju⟩:=exq (fun k=>(Q4v l k).whole:Int->Bool)
 obtain⟨ok,jC⟩:=exq (Q98 l:Int->Bool);have ny:∀k,0<=k->BCall prog 133 [.slc 1 (Q0 l),.val (.int .i64 k)] [] (.tup [.agg [.val (.int .i64 (kd k)),.val (.int .i64 (fr k)),.val (.int .i64 (to k)),.val (.bool (wh k))],.val (.bool (ok k))]) []:=fun k h0=>by rw[jD,vO,gZ,ju,jC];exact ny k h0
 obtain⟨n,hn⟩:=QE l
 have j8:∀k:Int,0<=k->k<n->to k=((Ql l k.toNat).2.1:Nat)/\k<to k/\to k<=n/\Q1m l k.toNat=⟨kd k,fr k,to k,wh k⟩/\ok k=true:=fun k h0 h1=>by
  have e:=hn.eq;have h2:Q4v l k=Q1m l k.toNat:=by rw[Q4v,if_pos ⟨h0,by omega⟩]
  have h3:=Q2E l k.toNat (by omega)
  have h4:to k=((Ql l k.toNat).2.1:Nat):=by rw[gZ];simp only[h2];rfl
  refine⟨h4,by omega,by omega,?_,?_⟩
  ·rw[jD,vO,gZ,ju];simp only[h2]
  ·rw[jC];simp[Q98];omega
 have qR:∀k:Int,0<=k->¬k<n->ok k=false:=fun k h0 h1=>by
  have e:=hn.eq;rw[jC];simp[Q98];omega
 clear jD vO gZ ju jC;refine fnN (csN kd fr to wh ok) func87 rfl fun _ _=>?_
 with_reducible refine cv1 (Q0 l) ?_
 refine⟨ny 0 (by omega),?_⟩
 refine Q1h (csN kd fr to wh ok) (List Tok×Int) (fun x=>⟨[(0,.slc 1 (Q0 l)),(3,.row 0 0),(4,.box 1 0),(5,.val (.bool (ok x.2)))],[.row 185 4 false 0 (QA x.1),.box [.val (.int .i64 (kd x.2)),.val (.int .i64 (fr x.2)),.val (.int .i64 (to x.2)),.val (.bool (wh x.2))]]⟩) (fun x=>0<=x.2/\x.2<=n/\x.1++Q1S l x.2.toNat=Q1r l/\(x.1.length:Int)<=x.2) (fun x=>(n-x.2).toNat) ([],0) ?_ ?_ ?_
 ·have:=hn.eq
  exact⟨by omega,by simp only;omega,rfl,by simp⟩
 ·exact⟨[none,some 0],_,rfl,by simp[Qe,lk,QA]⟩
 ·rintro⟨out,k⟩ ⟨jq,qE,jb,j5⟩
  simp only at jq qE jb j5
  have jR:=Q5G out;have en:=hn.eq;have hbd:out.length<=1000000:=by omega
  obtain⟨q,hq⟩:=QE out;have qJ:q<=k:=by rw[hq.eq];exact j5
  clear en;by_cases hk:k<n
  ·obtain⟨s1,s2,s3,s4,s5⟩:=j8 k jq hk
   have s6:=ny (to k) (by omega)
   have en:=hn.eq
   have hG:out++[⟨kd k,fr k,to k,wh k⟩]++Q1S l (to k).toNat=Q1r l:=by
    rw[<-jb,Q1O (k:=k.toNat) (by omega),s4,s1,Int.toNat_natCast];simp
   clear s1 en;with_reducible refine cv2 (Q0 l) (QA out) ?_
   have eq:=hq.eq;with_reducible repeat' first|refine aU (zA jR <| zA s5 s6) ?_|refine zA ?_ ?_|intro hb
   exact⟨(out++[⟨kd k,fr k,to k,wh k⟩],to k),⟨by simp only;omega,s3,hG,by show((out++[_]).length:Int)<=to k;simp only[length_append,List.length_singleton];omega⟩,by simp only;omega,[some 0,some 3],_,rfl,by simp[Qe,lk,std,Qei,QdL]⟩
  ·have s5:=qR k jq hk
   have en:=hn.eq;have hG:out=Q1r l:=by rw[<-jb,Q1k (by omega),List.append_nil]
   clear en;with_reducible refine cv2 (Q0 l) (QA out) ?_
   with_reducible repeat' first|refine aU s5 ?_|refine zA ?_ ?_|intro hb
   rw[if_pos trivial];with_reducible refine cv2 (Q0 l) (QA out) ?_
   exact .pure rfl (.inl (by rw[hG]))
def Q1E(l:List Int):Int:=if l.getD 0 0=34\/l.getD 0 0=39 then(match(l.drop 1).findIdx? (· == l.getD 0 0)with|some k=>k+2|none=>0)else 0
theorem QhC{l:List Int}{i:Int}(hq:l.getD 0 0=34\/l.getD 0 0=39)(h1:1<=i)(h2:i<l.length)(h3:∀j:Int,1<=j->j<i->l.getD j.toNat 0≠l.getD 0 0)(h4:l.getD i.toNat 0=l.getD 0 0):Q1E l=i+1:=by
 have hk:i.toNat-1<(l.drop 1).length:=by simp;omega
 have e:(l.drop 1).findIdx? (· == l.getD 0 0)=some (i.toNat-1):=by
  rw[List.findIdx?_eq_some_iff_getElem];refine⟨hk,?_,fun j hj=>?_⟩
  ·have h5:1+(i.toNat-1)=i.toNat:=by omega
   have h6:i.toNat<l.length:=by omega
   simp only[getElem_drop,h5,beq_iff_eq];rw[<-h4,getD_eq_getElem?_getD,getElem?_eq_getElem h6];rfl
  ·have h6:j+1<l.length:=by omega
   have h7:=h3 ((j+1:Nat):Int) (by omega) (by omega)
   rw[Int.toNat_natCast,getD_eq_getElem?_getD,getElem?_eq_getElem h6]at h7;simpa[getElem_drop]using h7
 simp only[Q1E,if_pos hq,e];omega
theorem Qgl{l:List Int}(h3:∀j:Int,1<=j->j<l.length->l.getD j.toNat 0≠l.getD 0 0):Q1E l=0:=by
 have e:(l.drop 1).findIdx? (· == l.getD 0 0)=none:=by
  rw[List.findIdx?_eq_none_iff];intro x hx;obtain⟨j,hj,rfl⟩:=List.mem_iff_getElem.1 hx;have h6:j+1<l.length:=by simp at hj;omega
  have h7:=h3 ((j+1:Nat):Int) (by omega) (by omega)
  rw[Int.toNat_natCast,getD_eq_getElem?_getD,getElem?_eq_getElem h6]at h7;simpa[getElem_drop]using h7
 simp only[Q1E,e];split<;>rfl
theorem Qns(l:List Int)(hl:l≠[])(xT:l.length<=1000000000):BCall prog 184 [.slc 1 (Q0 l)] [] (.val (.int .i64 (Q1E l))) []:=by
 refine QlH (cs:=cs0) (ord:=fun _=>.nil) Q6k (by kernel_rfl) func184 rfl (enters_of func184 (by kernel_rfl) rfl) (Nat.le_of_ble_eq_true rfl) (by kernel_rfl) (by kernel_rfl) ?_
 intro w0 g0;generalize hp:std=p;generalize hx:Q0 l=xs;generalize hT:Q4 p tys cs0 _ _ _ _=T;cbv at hT;subst hT;simp only[Tree.ok];subst hp hx;have je:0<l.length:=List.length_pos_iff.2 hl;have jE:=Qx l;have a0:(Q0 l)[0]?.getD .dead=.val (.int .i32 (l[0]?.getD 0)):=QJ (i:=0) (Int.le_refl 0) (by omega)
 refine⟨?_,?_,fun h1=>⟨?_,?_,fun h2=>.pure rfl (.inl ?_),fun h2=>?_⟩,fun h1=>?_⟩
 ·simp[std,jE,je]
 ·simp[std,Q3t,a0,AV.cells,intOf]
 ·simp[std,jE,je]
 ·simp[std,Q3t,a0,AV.cells,intOf]
 ·simp[std,a0,AV.cells,intOf]at h1 h2
  simp[Q1E,h1,h2]
 all_goals
  have hq:l.getD 0 0=34\/l.getD 0 0=39:=by
   first
    |(simp[std,a0,AV.cells,intOf]at h2;exact .inr h2)
    |(simp[std,a0,AV.cells,intOf]at h1;exact .inl h1)
  refine Qcq (cs:=cs0) (ord:=fun _=>.nil) Q6k (by kernel_rfl) (by kernel_rfl) (by kernel_rfl) (X:=Int) (fun i=>⟨[(0,.slc 1 (Q0 l)),(3,.val (.int .i64 i))],[]⟩)
   (fun i=>1<=i/\i<=l.length/\∀j:Int,1<=j->j<i->l.getD j.toNat 0≠l.getD 0 0) (fun i=>(l.length-i).toNat) 1 ⟨by omega,by omega,fun j h1 h2=>by omega⟩ ⟨[],_,rfl,?_⟩ ?_
  ·exact⟨rfl,rfl,trivial⟩
  ·rintro i ⟨qi,yt,pG⟩
   clear h1;generalize hp:std=p;generalize hx:Q0 l=xs;generalize hT:Q4 p tys cs0 _ _ _ _=T;cbv at hT;subst hT;simp only[Tree.ok,Q1];subst hp hx;refine⟨fun h1=>?_,fun h1=>?_⟩
   ·have h1:i<l.length:=by simpa[std,jE]using h1
    have ai:=QJ (l:=l) (i:=i) (by omega) h1
    refine⟨?_,?_,?_,?_,fun h2=>⟨?_,?_⟩,fun h2=>⟨?_,i+1,⟨?_,?_,fun j h3 h4=>?_⟩,?_,[],_,rfl,?_⟩⟩
    ·simp[std,jE];omega
    ·simp[std,Q3t,ai,AV.cells,intOf]
    ·simp[std,jE,je]
    ·simp[std,Q3t,a0,AV.cells,intOf]
    ·show(-9223372036854775808:Int)<=_/\_<=(9223372036854775807:Int)
     simp[std];omega
    ·generalize hp:std=p
     generalize hx:Q0 l=xs;generalize hT:Q53 p tys _ _ _ _=T;cbv at hT;subst hT;subst hp hx;refine FinOk.pure rfl (.inl ?_);have e:l.getD i.toNat 0=l.getD 0 0:=by simpa[std,ai,a0,AV.cells,intOf]using h2
     rw[QhC hq qi h1 pG e];rfl
    ·show(-9223372036854775808:Int)<=_/\_<=(9223372036854775807:Int)
     simp[std];omega
    ·show(1:Int)<=i+1
     omega
    ·show i+1<=(l.length:Int)
     omega
    ·by_cases ql:j=i
     ·subst ql
      simpa[std,ai,a0,AV.cells,intOf]using h2
     ·exact pG j h3 (by omega)
    ·show((l.length:Int)-(i+1)).toNat<((l.length:Int)-i).toNat
     omega
    ·exact⟨rfl,rfl,trivial⟩
   ·have h1:¬i<l.length:=by simpa[std,jE]using h1
    generalize hp:std=p;generalize hx:Q0 l=xs;generalize hT:Q4 p tys cs0 _ _ _ _=T;cbv at hT;subst hT hp hx;rw[if_pos trivial];refine FinOk.pure rfl (.inl ?_);rw[Qgl (l:=l) (fun j h3 h4=>pG j h3 (Int.lt_of_lt_of_le h4 (Int.not_lt.1 h1)))]
def Qt(l:List Int)(first:Bool):Int×Int :=
 if first=true/\Q6 l 0 [60,47]=true then(1,2)
 else if first=true/\l.getD 0 0=60 then(1,1)
 else if 0<(Q2X Qd l 0:Int)then(3,(Q2X Qd l 0:Int))
 else if 0<(Qj l 0:Int)then(2,(Qj l 0:Int))
 else if l.getD 0 0=61 then(4,1)
 else if 0<Q1E l then(5,Q1E l)
 else if((l.length:Int)=2/\Q6 l 0 [47,62]=true)\/((l.length:Int)=1/\l.getD 0 0=62)then(6,(l.length:Int))
 else(7,1)
def csP(run lead val:Int)(st:ByteArray->Bool):Nat->List AV->List Ob->Option (AV×List Ob):=fun f args _=>match f,args with
 |176,_=>some (.val (.int .i64 run),[])
 |183,_=>some (.val (.int .i64 lead),[])
 |184,_=>some (.val (.int .i64 val),[])
 |185,[_,_,.val (.string s)]=>some (.val (.bool (st s)),[])
 |_,_=>none
theorem Qn3(l:List Int)(hl:l≠[])(xT:l.length<=1000000000)(first:Bool):BCall prog 144 [.slc 1 (Q0 l),.val (.bool first)] [] (.tup [.val (.int .i64 (Qt l first).1),.val (.int .i64 (Qt l first).2)]) []:=by
 obtain⟨run,q5⟩:=exq ((Q2X Qd l 0:Int):Int);obtain⟨lead,jF⟩:=exq ((Qj l 0:Int):Int);obtain⟨val,hval⟩:=exq (Q1E l);obtain⟨st,jI⟩:=exq (fun s=>Q6 l 0 s.data.toList:ByteArray->Bool)
 have b1:BCall prog 176 [.slc 1 (Q0 l),.val (.int .i64 0),.val (.func (.func 182) #[] #[])] [] (.val (.int .i64 run)) []:=by
  rw[q5];exact Qpm l 0 Qd 182 Qlk (fun w=>Qke w)
 have b2:BCall prog 183 [.slc 1 (Q0 l),.val (.int .i64 0)] [] (.val (.int .i64 lead)) []:=by
  rw[jF];exact QoO l 0 (by omega) (by omega)
 have b3:BCall prog 184 [.slc 1 (Q0 l)] [] (.val (.int .i64 val)) []:=by
  rw[hval];exact Qns l hl xT
 have b4:∀s:ByteArray,s.size<=10->BCall prog 185 [.slc 1 (Q0 l),.val (.int .i64 0),.val (.string s)] [] (.val (.bool (st s))) []:=fun s hs=>by
  rw[jI];exact Qld l xT 0 (by omega) (by omega) s (by omega)
 obtain⟨n,hn⟩:=QE l;have e1:st ⟨#[60,47]⟩=Q6 l 0 [60,47]:=by rw[jI]
 have e2:st ⟨#[47,62]⟩=Q6 l 0 [47,62]:=by rw[jI]
 have hP:Qt l first=((if first=true/\st ⟨#[60,47]⟩=true then(1,2)
   else if first=true/\l.getD 0 0=60 then(1,1)
   else if 0<run then(3,run)
   else if 0<lead then(2,lead)
   else if l.getD 0 0=61 then(4,1)
   else if 0<val then(5,val)
   else if(n=2/\st ⟨#[47,62]⟩=true)\/(n=1/\l.getD 0 0=62)then(6,n)
   else(7,1)):Int×Int):=by
  rw[e1,e2,q5,jF,hval,hn.eq];rfl
 rw[hP];clear hP e1 e2 jI hval jF q5;have je:0<l.length:=List.length_pos_iff.2 hl;have a0:=QJ (l:=l) (i:=0) (Int.le_refl 0) (by omega)
 obtain⟨r0,vj⟩:=exq (l.getD 0 0);have a0:(Q0 l)[0]?.getD .dead=.val (.int .i32 r0):=by rw[vj,getD_eq_getElem?_getD];exact a0
 have a1:∀h:0<(Q0 l).length,(Q0 l)[0]'h=.val (.int .i32 r0):=fun h=>by rw[getElem?_eq_getElem h]at a0;exact a0
 rw[<-vj];clear vj;cases first
 all_goals
  refine fnN (csP run lead val st) func144 rfl fun _ _=>?_
  with_reducible refine cv1 (Q0 l) ?_
  have en:=hn.eq;have jE:=Qx l;have g7:0<(Q0 l).length:=by omega
  have qZ:(((Q0 l).length:Nat):Int)=n:=by omega
  have b5:=b4 ⟨#[60,47]⟩ (by decide)
  have b6:=b4 ⟨#[47,62]⟩ (by decide)
  with_reducible repeat' first|refine aU (zA a0 <| zA a1 <| zA qZ <| zA g7 <| zA b1 <| zA b2 <| zA b3 <| zA b5 b6) ?_|refine zA ?_ ?_|(intro hb;try simp[std,S1,a0,a1,qZ,g7,b1,b2,b3,b5,b6]at hb)
  all_goals
   first
    |refine .pure rfl ⟨.inl ?_,.inl ?_,trivial⟩
     all_goals
      try simp only[std,qZ]
      clear en jE qZ g7 je hn b1 b2 b3 b4 b5 b6
     all_goals first
      |(simp[*];done)
      |((repeat' split)<;>first|rfl|omega|(simp_all;done)|(simp_all;omega))
    |skip
 all_goals trace_state
structure TPart where
 kind:Int
 from_:Int
 to:Int
 deriving Inhabited
def TPart.av(x:TPart):AV:=.agg [.val (.int .i64 x.kind),.val (.int .i64 x.from_),.val (.int .i64 x.to)]
def Q8(l:List TPart):List AV:=l.map TPart.av
def Qm:TPart:=⟨0,0,0⟩
theorem Q1d(l:List TPart):(Q8 l).length=l.length:=by simp[Q8]
theorem QaN(a b:List TPart):Q8 (a++b)=Q8 a++Q8 b:=by simp[Q8]
theorem Q7O(x:TPart):Q8 [x]=[.agg [.val (.int .i64 x.kind),.val (.int .i64 x.from_),.val (.int .i64 x.to)]]:=rfl
theorem Q2a{l:List TPart}{i:Int}(h0:0<=i)(h1:i<l.length):(Q8 l)[i.toNat]?.getD .dead=(l[i.toNat]?.getD Qm).av:=QdT TPart.av h0 h1 Qm
def QO(l:List TPart)(a:Nat)(ks:List Int):Bool:=((l.drop a).take ks.length).map TPart.kind == ks
theorem Q29{l:List TPart}{a:Nat}{ks:List Int}(ha:a<=l.length):QO l a ks=true↔(a+ks.length<=l.length/\∀j,j<ks.length->(l[a+j]?.getD Qm).kind=ks[j]?.getD 0):=by
 have at_:a+ks.length<=l.length->∀j,j<ks.length->(((l.drop a).take ks.length).map TPart.kind)[j]?=some (l[a+j]?.getD Qm).kind:=fun h j hj=>by
  have h1:a+j<l.length:=by omega
  simp[getElem?_take,List.getElem?_drop,hj,h1]
 rw[QO,beq_iff_eq];constructor
 ·intro h
  have h1:a+ks.length<=l.length:=by
   have:=congrArg List.length h
   simp only[length_map,length_take,length_drop]at this;omega
  refine⟨h1,fun j hj=>?_⟩
  have h2:=at_ h1 j hj;rw[h]at h2;rw[h2];rfl
 ·rintro⟨h1,h2⟩
  refine List.ext_getElem? fun j=>?_
  by_cases hj:j<ks.length
  ·rw[at_ h1 j hj,h2 j hj,getElem?_eq_getElem hj];rfl
  ·rw[List.getElem?_eq_none (by simp;omega),List.getElem?_eq_none (by omega)]
theorem Q6V(l:List TPart)(hl:l.length<=1000000000)(a:Int)(h0:0<=a)(h1:a<=l.length)(ks:List Int)(hk:ks.length<=10)(res:AV)(a':Int)
  (hhit:QO l a.toNat ks=true->res=.slc 3 (Q8 ((l.drop a.toNat).take ks.length))/\a'=a+ks.length) (yq:QO l a.toNat ks=false->res=.val (.slice none 0 0)/\a'=a) :
  BCall prog 101 [.box 0 0,.slc 1 (Q9 ks)] [.box [.slc 3 (Q8 l),.val (.int .i64 a)]] res [.box [.slc 3 (Q8 l),.val (.int .i64 a')]]:=by
 obtain⟨n,hn⟩:=QE l;obtain⟨m,hm⟩:=QE ks;refine fnN (cs0) func101 rfl fun _ _=>?_
 have jz:=Q1d l;have qX:=Q2w ks;have xU:=Q29 (l:=l) (a:=a.toNat) (ks:=ks) (by omega)
 with_reducible refine cv2 (Q8 l) (Q9 ks) ?_
 have en:=hn.eq;have em:=hm.eq;replace h1:a<=(l.length:Int):=h1;refine⟨?_,fun h=>?_,fun h=>?_⟩
 ·refine(Qhr _).2 ?_
  simp only[std,jz];omega
 ·have h:(l.length:Int)-a<ks.length:=by simpa[std,jz,qX]using h
  obtain⟨rfl,rfl⟩:=yq (by
   rw[Bool.eq_false_iff];intro h2;have:=(xU.1 h2).1
   omega)
  exact⟨[some 0],.val (.slice none 0 0),_,rfl,rfl,le_refl _,rfl,by simp[Qe],.inl rfl⟩
 ·have h:¬(l.length:Int)-a<ks.length:=by simpa[std,jz,qX]using h
  refine Q1h (cs0) (Int) (fun i=>⟨[(0,.box 0 0),(1,.slc 1 (Q9 ks)),(21,.slc 1 (Q9 ks)),(22,.val (.int .i64 m)),(23,.val (.int .i64 i))],[.box [.slc 3 (Q8 l),.val (.int .i64 a)]]⟩) (fun i=>0<=i/\i<=m/\∀j:Nat,(j:Int)<i->(l[a.toNat+j]?.getD Qm).kind=ks[j]?.getD 0) (fun i=>(m-i).toNat) 0 ?_ ?_ ?_
  ·exact⟨by omega,by omega,fun j hj=>by omega⟩
  ·refine⟨[some 0],_,rfl,?_⟩
   simp[Qe,lk,std,qX,em]
  ·have vH:a+m<=n:=by omega
   clear h;rintro i ⟨jK,him,hi⟩;rcases Int.lt_or_eq_of_le him with jA|j6
   ·have jV:=Q2T (l:=ks) jK (by omega)
    have pH:=Q2a (l:=l) (i:=a+i) (by omega) (by omega)
    have pI:(a+i).toNat=a.toNat+i.toNat:=by omega
    rw[pI]at pH;have cr:∀j:Nat,j<i.toNat->(l[a.toNat+j]?.getD Qm).kind=ks[j]?.getD 0:=fun j hj=>hi j (by omega)
    clear hi;clear en em;with_reducible refine cv2 (Q8 l) (Q9 ks) ?_
    have en:=hn.eq;have em:=hm.eq;have hib:a+i<(l.length:Int):=by omega
    repeat' first
     |(with_reducible refine And.intro (fun hx=>absurd hx (by first|(try simp[std,S1,jV,pH,pI,TPart.av,jz,qX,jA,jK,hib])<;>omega|omega)) (fun _=>?_))
     |(with_reducible refine And.intro (fun _=>?_) (fun hx=>absurd hx (by first|(try simp[std,S1,jV,pH,pI,TPart.av,jz,qX,jA,jK,hib])<;>omega|omega)))
     |(with_reducible refine And.intro (by first|(try simp[std,S1,jV,pH,pI,TPart.av,jz,qX,jA,jK,hib])<;>omega|omega) ?_)
     |(with_reducible refine zA ?_ ?_)
     |(with_reducible intro hb)
    ·have jQ:¬(l[a.toNat+i.toNat]?.getD Qm).kind=ks[i.toNat]?.getD 0:=by
      simpa[std,jV,pH,pI,TPart.av,AV.cells,intOf]using hb
     obtain⟨rfl,rfl⟩:=yq (by
      rw[Bool.eq_false_iff];intro h2;exact jQ ((xU.1 h2).2 i.toNat (by omega)))
     with_reducible refine cv2 (Q8 l) (Q9 ks) ?_
     exact⟨[some 0],.val (.slice none 0 0),_,rfl,rfl,le_refl _,rfl,by simp[Qe],.inl rfl⟩
    ·have he:(l[a.toNat+i.toNat]?.getD Qm).kind=ks[i.toNat]?.getD 0:=by
      simpa[std,jV,pH,pI,TPart.av,AV.cells,intOf]using hb
     refine⟨i+1,⟨by omega,by omega,fun j hj=>?_⟩,by omega,[some 0],_,rfl,by simp[Qe,lk,std]⟩
     have hj:(j:Int)<i+1:=hj;by_cases ql:j<i.toNat
     ·exact cr j ql
     ·obtain rfl:j=i.toNat:=by omega
      exact he
   ·obtain⟨rfl,rfl⟩:=hhit (xU.2 ⟨by omega,fun j hj=>hi j (by omega)⟩)
    have jS:std.cut (Q8 l) a (a+m)=Q8 ((l.drop a.toNat).take ks.length):=by
     show((Q8 l).drop a.toNat).take (a+m-a).toNat=_
     rw[show(a+m-a).toNat=ks.length by omega,Q8,Q8,map_take,map_drop]
    have gK:std.len (Q9 ks)=m:=by simp only[std,qX,em]
    have pv:a+(ks.length:Int)=a+m:=by omega
    rw[pv,<-jS];clear en em hi;with_reducible refine cv2 (Q8 l) (Q9 ks) ?_
    with_reducible repeat' first|refine aU j6 ?_|refine zA ?_ ?_|intro hb
    rw[if_pos trivial];with_reducible refine cv2 (Q8 l) (Q9 ks) ?_
    have en:=hn.eq;have em:=hm.eq
    repeat' first
     |(with_reducible refine And.intro (fun hx=>absurd hx (by first|(try simp[std,S1,gK,jz,qX,<-em])<;>omega|omega)) (fun _=>?_))
     |(with_reducible refine And.intro (fun _=>?_) (fun hx=>absurd hx (by first|(try simp[std,S1,gK,jz,qX,<-em])<;>omega|omega)))
     |(with_reducible refine And.intro (by first|(try simp[std,S1,gK,jz,qX,<-em])<;>omega|omega) ?_)
     |(with_reducible refine zA ?_ ?_)
     |(with_reducible intro hb)
    have zt:std.add a (std.len (Q9 ks))=a+m:=by rw[gK];rfl
    refine⟨[some 0],.slc 3 (std.cut (Q8 l) a (a+m)),_,rfl,rfl,le_refl _,rfl,⟨?_,rfl,?_,trivial⟩,.inl rfl⟩
    ·show AV.slc 3 (std.cut (Q8 l) a (std.add a (std.len (Q9 ks))))=_
     rw[zt]
    ·show AV.val (.int .i64 (std.add a (std.len (Q9 ks))))=_
     rw[zt]
theorem Qlj(l:List Int):0<=Q1E l/\Q1E l<=l.length:=by
 unfold Q1E;split
 ·cases h:(l.drop 1).findIdx? (· == l.getD 0 0)with
  |none=>simp
  |some k =>
   have:=(List.findIdx?_eq_some_iff_getElem.1 h).1
   simp at this;simp only;omega
 ·omega
theorem Q3n(l:List Int)(first:Bool)(h:l≠[]):1<=(Qt l first).2/\(Qt l first).2<=l.length:=by
 have hp:0<l.length:=List.length_pos_iff.2 h;unfold Qt;split
 ·rename_i h1
  have:=Q17 l 0 _ (by omega) h1.2
  simp only[List.length_cons,List.length_nil]at this;simp only;omega
 ·split
  ·simp only;omega
  ·split
   ·rename_i h1
    have:Q2X Qd l 0<=l.length:=by
     rw[Q2X,if_neg (by omega)]
     have:=(List.takeWhile_sublist Qd (l:=l.drop (0:Int).toNat)).length_le
     simpa using this
    simp only;omega
   ·split
    ·rename_i h1
     have:Qj l 0<=l.length:=by
      unfold Qj;split
      ·omega
      ·split
       ·have:=(List.takeWhile_sublist Qq (l:=l.drop 0)).length_le
        simpa using this
       ·omega
     simp only;omega
    ·split
     ·simp only;omega
     ·split
      ·have:=Qlj l
       simp only;omega
      ·split<;>(simp only;omega)
def QB(at_:Int)(first:Bool)(r:List Int):List TPart :=
 if h:r=[]then []else⟨(Qt r first).1,at_,at_+(Qt r first).2⟩::QB (at_+(Qt r first).2) false (r.drop (Qt r first).2.toNat)
termination_by r.length
decreasing_by
 have:=Q3n r first h
 simp only[length_drop];omega
def QS(l:List Int)(from_ to:Int):List TPart:=QB from_ true ((l.take to.toNat).drop from_.toNat)
def pkA(xs:List AV)(b:Bool):Int:=(Qt (xs.map intOf) b).1
def pnA(xs:List AV)(b:Bool):Int:=(Qt (xs.map intOf) b).2
theorem Q44(l:List Int):(Q0 l).map intOf=l:=by
 induction l with
 |nil=>rfl
 |cons x r ih=>rw[Q0,map_cons,map_cons];rw[Q0]at ih;rw[ih];rfl
def QhP(pk pn:List AV->Bool->Int):Nat->List AV->List Ob->Option (AV×List Ob):=fun f args _=>match f,args with
 |144,[.slc 1 xs,.val (.bool b)]=>some (.tup [.val (.int .i64 (pk xs b)),.val (.int .i64 (pn xs b))],[])
 |_,_=>none
theorem QcI(l:List Int)(hl:l.length<=1000000000)(from_ to:Int)(h0:0<=from_)(h1:from_<=to)(h2:to<=l.length) :
  BCall prog 100 [.slc 1 (Q0 l),.val (.int .i64 from_),.val (.int .i64 to)] [] (.slc 3 (Q8 (QS l from_ to))) []:=by
 obtain⟨n,hn⟩:=QE l;have pD:to<=n:=by rw[hn.eq];exact h2
 have vu:n<=1000000000:=by rw[hn.eq];omega
 clear h2;refine fnN (QhP pkA pnA) func100 rfl fun _ _=>?_
 with_reducible refine cv3 pkA pnA (Q0 l) ?_
 have en:=hn.eq;have qd:=Qx l;have kT:(((Q0 l).length:Nat):Int)=n:=by omega
 with_reducible repeat' first|refine aU (zA kT <| zA h0 <| zA h1 pD) ?_|refine zA ?_ ?_|intro hb
 refine Q1h (QhP pkA pnA) (List TPart×Int) (fun x=>⟨[(0,.slc 1 (Q0 l)),(1,.val (.int .i64 from_)),(2,.val (.int .i64 to)),(7,.row 0 0),(8,.val (.int .i64 x.2))],[.row 113 3 false 0 (Q8 x.1)]⟩) (fun x=>from_<=x.2/\x.2<=to/\x.1++QB x.2 (decide (x.2=from_)) ((l.take to.toNat).drop x.2.toNat)=QS l from_ to/\x.1.length<=x.2.toNat) (fun x=>(to-x.2).toNat) ([],from_) ?_ ?_ ?_
 ·exact⟨by omega,h1,by simp[QS],by simp⟩
 ·exact⟨[none],_,rfl,by simp[Qe,lk,Q8]⟩
 ·rintro⟨out,k⟩ ⟨jq,qE,jb,j5⟩
  simp only at jq qE jb j5
  have jR:=Q1d out;by_cases hk:k<to
  ·obtain⟨r,hr⟩:=exq ((l.take to.toNat).drop k.toNat)
   have k9:r.length=to.toNat-k.toNat:=by rw[hr,length_drop,length_take];omega
   have xV:r≠[]:=by intro h;rw[h]at k9;simp at k9;omega
   have jS:std.cut (Q0 l) k to=Q0 r:=by
    show((Q0 l).drop k.toNat).take (to-k).toNat=_
    rw[hr,Q0,Q0,map_drop,map_take,List.drop_take];congr 1;omega
   obtain⟨first,hf⟩:=exq (decide (k=from_))
   have j6:std.eqI k from_=first:=by
    rw[hf];show(k == from_)=decide (k=from_)
    by_cases h:k=from_<;>simp[h]
   have hpn:=Q3n r first xV
   have hb:=Qn3 r xV (by omega) first
   obtain⟨K,hK⟩:=exq ((Qt r first).1)
   obtain⟨N,hN⟩:=exq ((Qt r first).2)
   have gX:pkA (std.cut (Q0 l) k to) (std.eqI k from_)=K:=by rw[jS,j6,pkA,Q44,hK]
   have pw:pnA (std.cut (Q0 l) k to) (std.eqI k from_)=N:=by rw[jS,j6,pnA,Q44,hN]
   rw[<-hK,<-hN]at hb
   have hb:BCall prog 144 [.slc 1 (std.cut (Q0 l) k to),.val (.bool (std.eqI k from_))] [] (.tup [.val (.int .i64 (pkA (std.cut (Q0 l) k to) (std.eqI k from_))),.val (.int .i64 (pnA (std.cut (Q0 l) k to) (std.eqI k from_)))]) []:=by
    rw[gX,pw,jS,j6];exact hb
   have hG:out++[⟨K,k,k+N⟩]++QB (k+N) (decide (k+N=from_)) ((l.take to.toNat).drop (k+N).toNat)=QS l from_ to:=by
    have e1:decide (k+N=from_)=false:=by simp;omega
    have e2:(l.take to.toNat).drop (k+N).toNat=r.drop N.toNat:=by rw[hr,drop_drop];congr 1;omega
    have e3:QB k first r=⟨K,k,k+N⟩::QB (k+N) false (r.drop N.toNat):=by
     conv=>lhs;rw[QB]
     rw[dif_neg xV,<-hK,<-hN]
    rw[e1,e2,<-jb,<-hf,<-hr,e3];simp
   have hN1:1<=N:=by rw[hN];exact hpn.1
   have kF:k+N<=to:=by rw[hN];omega
   clear hpn hf en;with_reducible refine cv4 pkA pnA (Q0 l) (Q8 out) ?_
   have en:=hn.eq;have zt:std.add k (pnA (std.cut (Q0 l) k to) (std.eqI k from_))=k+N:=by rw[pw];rfl
   have jM:std.inR .i64 (std.add k (pnA (std.cut (Q0 l) k to) (std.eqI k from_))):=by
    rw[zt];exact(Qhr _).2 (by omega)
   refine⟨fun _=>⟨?_,hb,jM,?_,jM,(out++[⟨K,k,k+N⟩],k+N),⟨by simp only;omega,kF,hG,by simp only[length_append,List.length_singleton];omega⟩,by simp only;omega,[some 0],_,rfl,?_⟩,fun h=>?_⟩
   ·simp only[std,qd];omega
   ·simp only[std,jR,List.length_singleton];omega
   ·refine⟨rfl,rfl,rfl,rfl,?_,?_,trivial⟩
    ·show AV.val (.int .i64 (std.add k (pnA (std.cut (Q0 l) k to) (std.eqI k from_))))=_
     rw[zt]
    ·show AV.slc 0 (std.app (Q8 out) [.agg [.val (.int .i64 (pkA (std.cut (Q0 l) k to) (std.eqI k from_))),.val (.int .i64 k),.val (.int .i64 (std.add k (pnA (std.cut (Q0 l) k to) (std.eqI k from_))))]])=_
     rw[zt,gX,QaN,Q7O];rfl
   ·simp[std]at h;omega
  ·have hG:out=QS l from_ to:=by
    have:(l.take to.toNat).drop k.toNat=[]:=List.drop_eq_nil_of_le (by rw[length_take];omega)
    rw[<-jb,this,QB,dif_pos rfl,List.append_nil]
   clear en;with_reducible refine cv4 pkA pnA (Q0 l) (Q8 out) ?_
   with_reducible repeat' first|refine aU hk ?_|refine zA ?_ ?_|intro hb
   rw[if_pos trivial];with_reducible refine cv4 pkA pnA (Q0 l) (Q8 out) ?_
   exact .pure rfl (.inl (by rw[hG]))
end
theorem Qom{α:Type}(f:α->AV){l:List α}{i:Int}(h0:0<=i)(h1:i<l.length)(d:α):std.at_ (l.map f) i=f (l[i.toNat]?.getD d):=by
 show(l.map f).getD i.toNat .dead=_
 rw[getD_eq_getElem?_getD];exact QdT f h0 h1 d
theorem QdH{l:List Int}{i:Int}(h0:0<=i)(h1:i<l.length):std.nth (std.cel (std.at_ (Q9 l) i)) 0=.val (.int .i64 (l[i.toNat]?.getD 0)):=by rw[Q9,Qom Qgf h0 h1 0];rfl
theorem QmM{x:AV}{n:Int}{k:IntKind}(h:x=.val (.int k n)):std.hasI k x:=by subst h;rfl
theorem Ql3{x:AV}{n:Int}{k:IntKind}(h:x=.val (.int k n)):std.int x=n:=by subst h;rfl
section
open Tryz
inductive Cur where
 |root (n:Int)
 |kid (n f k:Int) (up:Cur)
 deriving Inhabited
def Cur.n:Cur->Int
 |.root n=>n
 |.kid n _ _ _=>n
def Cur.f:Cur->Int
 |.root _=>0
 |.kid _ f _ _=>f
def Cur.k:Cur->Int
 |.root _=>0
 |.kid _ _ k _=>k
def upO(N:List AV):Cur->AV
 |.root _=>.val (.pointer none)
 |.kid _ _ _ up=>.ref [.ref [.slc 6 N],.val (.int .i64 up.n),.val (.int .i64 up.f),.val (.int .i64 up.k),.opt (upO N up)]
def Cur.cs(N:List AV)(c:Cur):List AV:=[.ref [.slc 6 N],.val (.int .i64 c.n),.val (.int .i64 c.f),.val (.int .i64 c.k),.opt (upO N c)]
def QpK:List AV:=[.val (.pointer none),.val (.int .i64 0),.val (.int .i64 0),.val (.int .i64 0),.val (.pointer none)]
theorem QcJ(N:List AV)(c:Cur):Q56 (upO N c):=by cases c<;>trivial
def Qg(l:List Node)(c:Cur):List Int:=(Qn l c.n).kids
def Q34(l:List Node)(c:Cur)(k:Int):Cur:=.kid ((Qg l c)[k.toNat]?.getD 0) (c.f+Q1Z l ((Qg l c).take k.toNat)) k c
def Qpw(len:List AV->Int):Nat->List AV->List Ob->Option (AV×List Ob):=fun f args _=>match f,args with
 |118,[.ref [.slc 6 xs]]=>some (.val (.int .i64 (len xs)),[])
 |_,_=>none
theorem QoT(l:List Node)(n:Int)(h0:0<=n)(h1:n<l.length):BCall prog 67 [.ref [.slc 6 (Q3 l)],.val (.int .i64 n)] [] (.tup [.agg ((Cur.root n).cs (Q3 l)),.val (.int .i64 0)]) []:=by
 have cL:=QbT l;have jE:Q5p (Q3 l)=l.length:=by rw[Q5p,Q1o]
 refine fnN (Qpw Q5p) func67 rfl fun _ _=>?_
 with_reducible refine cv2 Q5p (Q3 l) ?_
 refine⟨fun h=>?_,fun _=>⟨cL,fun h=>?_,fun _=>.pure rfl ⟨⟨.inl rfl,.inl rfl,.inl rfl,.inl rfl,.inr (.inr (.inl ⟨rfl,trivial⟩)),trivial⟩,.inl rfl,trivial⟩⟩⟩
 ·have h:n<0:=of_decide_eq_true h
  omega
 ·have h:Q5p (Q3 l)<=n:=of_decide_eq_true h
  omega
def QiF(kd:Int->List AV)(w:Int->Int):Nat->List AV->List Ob->Option (AV×List Ob):=fun f args _=>match f,args with
 |68,[.ref [.slc 6 _],.val (.int .i64 n)]=>some (.slc 1 (kd n),[])
 |58,[.ref [.slc 6 _],.val (.int .i64 n)]=>some (.val (.int .i64 (w n)),[])
 |_,_=>none
theorem QtS(l:List Node)(c:Cur)(k:Int)(hk:¬(0<=k/\k<(Qg l c).length))(hn:(Qg l c).length<=1000000):BCall prog 56 [.agg (c.cs (Q3 l)),.val (.int .i64 k)] [] (.tup [.agg QpK,.val (.bool false)]) []:=by
 have cK:=QlB l c.n (by show(Qg l c).length<=_;omega)
 obtain⟨m,hm⟩:=QE (Qg l c);have jE:=Q2w (Qg l c);have hk:¬(0<=k/\k<m):=by rw[hm.eq];exact hk
 rename ¬(0<=k/\k<((Qg l c).length:Int))=>qO
 clear qO;obtain⟨cn,vl⟩:=exq c.n;obtain⟨cf,vm⟩:=exq c.f;obtain⟨ck,vq⟩:=exq c.k;have nD:Q23 l cn=Q9 (Qg l c):=by rw[vl];rfl
 rw[Cur.cs,<-vl,<-vm,<-vq];rw[<-vl]at cK;have cK:BCall prog 68 [.ref [.slc 6 (Q3 l)],.val (.int .i64 cn)] [] (.slc 1 (Q23 l cn)) []:=cK;refine fnN (QiF (Q23 l) (Q1c l)) func56 rfl fun _ _=>?_
 with_reducible refine cv4 (Q23 l) (Q1c l) (upO (Q3 l) c) (Q3 l) ?_
 have qX:std.len (Q23 l cn)=m:=by show((Q23 l cn).length:Int)=_;rw[nD,jE,hm.eq]
 refine⟨cK,fun _=>.pure rfl ⟨⟨.inl rfl,.inl rfl,.inl rfl,.inl rfl,.inl rfl,trivial⟩,.inl rfl,trivial⟩,fun h=>⟨fun _=>.pure rfl ⟨⟨.inl rfl,.inl rfl,.inl rfl,.inl rfl,.inl rfl,trivial⟩,.inl rfl,trivial⟩,fun h2=>?_⟩⟩
 have h:¬k<0:=of_decide_eq_false h;have h2:¬std.len (Q23 l cn)<=k:=of_decide_eq_false h2;rw[qX]at h2;omega
theorem QnI(l:List Node)(c:Cur)(k:Int)(h0:0<=k)(h1:k<(Qg l c).length)(hn:(Qg l c).length<=1000000)(hw:∀n,0<=Q1c l n)(hs:Q1Z l (Qg l c)<=2147483647)(qn:0<=c.f)(qo:c.f<=2147483647) :
  BCall prog 56 [.agg (c.cs (Q3 l)),.val (.int .i64 k)] [] (.tup [.agg ((Q34 l c k).cs (Q3 l)),.val (.bool true)]) []:=by
 have cK:=QlB l c.n (by show(Qg l c).length<=_;omega)
 have cW:=fun n=>Qn0 l n
 obtain⟨cn,vl⟩:=exq c.n;obtain⟨cf,vm⟩:=exq c.f;obtain⟨ck,vq⟩:=exq c.k;obtain⟨ks,yk⟩:=exq (Qg l c);obtain⟨m,hm⟩:=QE ks;have nD:Q23 l cn=Q9 ks:=by rw[vl,yk];rfl
 rw[<-yk]at h1 hn hs;rw[<-vm]at qn qo;have cJ:k<m:=by rw[hm.eq];exact h1
 have jE:=Q2w ks;have qX:std.len (Q23 l cn)=m:=by show((Q23 l cn).length:Int)=_;rw[nD,jE,hm.eq]
 have hE:(Q34 l c k).cs (Q3 l)=[.ref [.slc 6 (Q3 l)],.val (.int .i64 (ks[k.toNat]?.getD 0)),.val (.int .i64 (cf+Q1Z l (ks.take k.toNat))),.val (.int .i64 k),.opt (.ref [.ref [.slc 6 (Q3 l)],.val (.int .i64 cn),.val (.int .i64 cf),.val (.int .i64 ck),.opt (upO (Q3 l) c)])]:=by
  rw[yk,vm,vl,vq];rfl
 rw[hE,Cur.cs,<-vl,<-vm,<-vq];rw[<-vl]at cK;have cK:BCall prog 68 [.ref [.slc 6 (Q3 l)],.val (.int .i64 cn)] [] (.slc 1 (Q23 l cn)) []:=cK;have jV:=Q2T (l:=ks) h0 h1
 have jS:std.cut (Q9 ks) 0 k=Q9 (ks.take k.toNat):=by
  show((Q9 ks).drop (0:Int).toNat).take (k-0).toNat=_
  simp[Q9,map_take]
 clear h1 hE;refine fnN (QiF (Q23 l) (Q1c l)) func56 rfl fun _ _=>?_
 with_reducible refine cv4 (Q23 l) (Q1c l) (upO (Q3 l) c) (Q3 l) ?_
 refine⟨cK,fun h=>?_,fun _=>⟨fun h=>?_,fun _=>⟨?_,?_⟩⟩⟩
 ·have h:k<0:=of_decide_eq_true h
  omega
 ·have h:std.len (Q23 l cn)<=k:=of_decide_eq_true h
  rw[qX]at h;omega
 ·show std.cutok 0 k (std.len (Q23 l cn))
  rw[qX];exact⟨Int.le_refl _,h0,by omega⟩
 have qu:std.len (Q9 (ks.take k.toNat))=k:=by
  show((Q9 (ks.take k.toNat)).length:Int)=k
  have:=hm.eq
  rw[Q2w,length_take];omega
 rw[<-nD]at jS;obtain⟨aw,pK⟩:=exq (fun i=>cf+Q1Z l (ks.take i.toNat):Int->Int)
 have pj:cf+Q1Z l (ks.take k.toNat)=aw k:=by rw[pK]
 rw[pj];have kJ:std.len (std.cut (Q23 l cn) 0 k)=k:=by rw[jS,qu]
 refine Q1h (QiF (Q23 l) (Q1c l)) (Int) (fun i=>⟨[(1,.val (.int .i64 k)),(2,.box 0 0),(4,.box 1 0),(6,.slc 1 (Q9 ks)),(7,.val (.int .i64 (aw i))),(28,.slc 1 (Q9 (ks.take k.toNat))),(29,.val (.int .i64 k)),(30,.val (.int .i64 i))],[.box [.ref [.slc 6 (Q3 l)],.val (.int .i64 cn),.val (.int .i64 cf),.val (.int .i64 ck),.opt (upO (Q3 l) c)],.box QpK]⟩) (fun i=>0<=i/\i<=k) (fun i=>(k-i).toNat) 0 ?_ ?_ ?_
 ·exact⟨Int.le_refl _,h0⟩
 ·refine⟨[some 0,some 1],_,rfl,?_⟩
  have ch:cf=aw 0:=by rw[pK];simp[Q1Z]
  repeat first
   |exact trivial
   |refine⟨gA nD,?_⟩
   |refine⟨gA jS,?_⟩
   |refine⟨gI kJ,?_⟩
   |refine⟨gI ch,?_⟩
   |refine⟨rfl,?_⟩
 ·rintro i ⟨jK,qi⟩
  have z7:=Q5P hw (ks.take i.toNat);have ga:=Q9y hw ks i.toNat;rcases Int.lt_or_eq_of_le qi with jA|j6
  ·have qF:=hm.eq
   have j1:i.toNat<ks.length:=by omega
   have hx:(Q9 (ks.take k.toNat))[i.toNat]?.getD .dead=.val (.int .i64 (ks[i.toNat]?.getD 0)):=by
    have:=Q2T (l:=ks.take k.toNat) (i:=i) jK (by rw[length_take];omega)
    rw[this,getElem?_take,if_pos (by omega)]
   have hxc:=QdH (l:=ks.take k.toNat) (i:=i) jK (by rw[length_take];omega)
   rw[getElem?_take,if_pos (by omega)]at hxc
   have jH:Q1Z l (ks.take (i+1).toNat)=Q1Z l (ks.take i.toNat)+Q1c l (ks[i.toNat]?.getD 0):=by
    rw[show(i+1).toNat=i.toNat+1 by omega,take_add_one,getElem?_eq_getElem j1]
    show(((ks.take i.toNat)++[ks[i.toNat]]).map (Q1c l)).sum=_
    rw[map_append,List.sum_append];simp[Q1Z]
   have zR:=Q9y hw ks (i+1).toNat;rw[jH]at zR;have hw4:=hw (ks[i.toNat]?.getD 0);have nF:aw (i+1)=aw i+Q1c l (ks[i.toNat]?.getD 0):=by rw[pK];simp only[jH];omega
   have hawi:aw i=cf+Q1Z l (ks.take i.toNat):=by rw[pK]
   have yp:0<=aw i+Q1c l (ks[i.toNat]?.getD 0)/\aw i+Q1c l (ks[i.toNat]?.getD 0)<=4294967294:=by omega
   obtain⟨y,hy⟩:=exq (ks[i.toNat]?.getD 0);rw[<-hy]at hx hxc nF yp;clear qF z7 ga zR jH hw4 hawi pK pj;have hlt':=jA;with_reducible refine cv6 (Q23 l) (Q1c l) (upO (Q3 l) c) (Q3 l) (Q9 ks) (Q9 (ks.take k.toNat)) ?_
   have hy3:=hxc;have zc:=Ql3 hxc;have e1:aw i+Q1c l y=aw (i+1):=nF.symm;refine⟨fun _=>⟨?_,⟨?_,trivial⟩,cW _,?_,?_,i+1,⟨by omega,by omega⟩,by omega,[some 0,some 1],_,rfl,?_⟩,fun h=>?_⟩
   ·show 0<=i/\i<std.len (Q9 (ks.take k.toNat))
    rw[qu];omega
   ·show std.nth (std.cel (std.at_ (Q9 (ks.take k.toNat)) i)) 0=.val (.int .i64 (std.int (std.nth (std.cel (std.at_ (Q9 (ks.take k.toNat)) i)) 0)))
    rw[zc,hy3]
   ·show(-9223372036854775808:Int)<=aw i+Q1c l (std.int (std.nth (std.cel (std.at_ (Q9 (ks.take k.toNat)) i)) 0))/\aw i+Q1c l (std.int (std.nth (std.cel (std.at_ (Q9 (ks.take k.toNat)) i)) 0))<=(9223372036854775807:Int)
    rw[zc];omega
   ·show(-9223372036854775808:Int)<=i+1/\i+1<=(9223372036854775807:Int)
    have:=hm.eq
    omega
   ·have e2:std.add (aw i) (Q1c l (std.int (std.nth (std.cel (std.at_ (Q9 (ks.take k.toNat)) i)) 0)))=aw (i+1):=by rw[zc];exact e1
    exact eq1 e2
   ·have h:¬i<k:=of_decide_eq_false h
    omega
  ·rw[j6]
   clear z7 ga pK pj;with_reducible refine cv6 (Q23 l) (Q1c l) (upO (Q3 l) c) (Q3 l) (Q9 ks) (Q9 (ks.take k.toNat)) ?_
   refine⟨fun h=>?_,fun _=>?_⟩
   ·have h:k<k:=of_decide_eq_true h
    omega
   rw[if_pos trivial];with_reducible refine cv6 (Q23 l) (Q1c l) (upO (Q3 l) c) (Q3 l) (Q9 ks) (Q9 (ks.take k.toNat)) ?_
   have hkm:=hm.eq;have hcl3:std.len (Q9 ks)=m:=by show((Q9 ks).length:Int)=m;rw[Q2w,hm.eq]
   have hc:=QdH (l:=ks) h0 (by omega)
   refine⟨?_,⟨QmM hc,trivial⟩,.pure rfl ⟨⟨.inl rfl,.inl (gI (Ql3 hc)),.inl rfl,.inl rfl,.inr (.inr (.inl ⟨rfl,trivial⟩)),trivial⟩,.inl rfl,trivial⟩⟩;show 0<=k/\k<std.len (Q9 ks);rw[hcl3];omega
def QpN(k:Int->Int):Nat->List AV->List Ob->Option (AV×List Ob):=fun f args _=>match f,args with
 |115,[.ref [.slc 6 _],.val (.int .i64 n)]=>some (.val (.int .i64 (k n)),[])
 |_,_=>none
theorem Qm8(l:List Node)(c:Cur):BCall prog 55 [.agg (c.cs (Q3 l))] [] (.val (.int .i64 (Qn l c.n).kind)) []:=by
 have cK:=QoJ l c.n;rw[Cur.cs];obtain⟨cn,vl⟩:=exq c.n;obtain⟨cf,vm⟩:=exq c.f;obtain⟨ck,vq⟩:=exq c.k;rw[<-vl]at cK ⊢;rw[<-vm,<-vq];refine fnN (QpN (Q1f l)) func55 rfl fun _ _=>?_
 with_reducible refine cv3 (Q1f l) (upO (Q3 l) c) (Q3 l) ?_
 exact⟨cK,.pure rfl (.inl rfl)⟩
structure CurOk (l:List Node) (c:Cur):Prop where
 n:(Qg l c).length<=1000000
 s:Q1Z l (Qg l c)<=2147483647
 f0:0<=c.f
 f1:c.f<=2147483647
end
def Qc2(g:Nat->Option (List Srt))(ty:Tys):Nat->List Field->Option (List Srt)
 |_,[]=>some []
 | off, f :: r => if f.name ≠ "_" ∧ f.offset = off ∧ (Q5 f.type ty).ok = true then
   (match g f.type,Qc2 g ty (off+(Q5 f.type ty).size) r with
   |some s,some q=>if s.length=(Q5 f.type ty).size then some (s++q)else none
   |_,_=>none)else none
def Qdf(P:Program)(ty:Tys):Nat->Nat->Option (List Srt)
 |0,_=>none
 |d+1,t=>match P.underlying t with
  |some (.struct fs)=>if P.stoodInHeld t=false then Qc2 (Qdf P ty d) ty 0 fs.toList else none
  |some .bool=>some [.boo]
  |some .string=>some [.str]
  |some (.int k)=>some [.int k]
  |_=>none
section
variable {P:Program}{ty:Tys}
def mkV(ty:Tys)(t:Nat)(xs:List Value):Value:=if(Q5 t ty).agg=true then .agg xs.toArray else xs.headD undef
def Q6u(xs ys:List Value):Bool:=(xs.zip ys).all fun q=>eqV q.1 q.2
theorem Qly{a b c d:List Value}(h:a.length=c.length):Q6u (a++b) (c++d)=(Q6u a c&&Q6u b d):=by
 unfold Q6u;rw[List.zip_append h,List.all_append]
theorem Q9B{xs:List Value}{sh:List Srt}(h:xs.map Q3z=sh.map some):xs.length=sh.length:=by
 have:=congrArg List.length h
 simpa using this
theorem Q6U{xs:List Value}{s:Srt}(h:xs.map Q3z=[s].map some):∃x,xs=[x]/\Q3z x=some s:=by
 cases xs with
 |nil=>cases h
 |cons x t =>
  obtain⟨h1,h2⟩:=List.cons.inj h;obtain rfl:t=[]:=by simpa using h2
  exact⟨x,rfl,h1⟩
theorem Q7S(hT:TyOk P ty){t:Nat}(hk:(Q5 t ty).ok=true){d:TypeDesc}(h:P.underlying t=some d):(Q5 t ty).agg=(Q2B d).1:=by
 obtain⟨d',h1,h2⟩:=(Q2S hT hk).u;rw[h]at h1;cases h1;rw[h2]
theorem Qhq(hT:TyOk P ty){t:Nat}(hk:(Q5 t ty).ok=true)(xs:List Value)(off:Nat)(hl:off+(Q5 t ty).size<=xs.length)(W:World) :
  (part t xs.toArray off).run P W=.ok (mkV ty t ((xs.drop off).take (Q5 t ty).size)) W:=by
 have ti:=Q2S hT hk;unfold part mkV;rw[Sem.run_bind,ti.isAgg W];simp only[Result.andThen_ok];by_cases hg:(Q5 t ty).agg=true
 ·rw[if_pos hg,if_pos hg,Sem.run_bind,ti.size W]
  simp only[Result.andThen_ok,Sem.run_pure];congr 2
  apply Array.toList_inj.1;simp[List.take_drop]
 ·rw[if_neg hg,if_neg hg]
  have h1:=ti.one (by simpa using hg)
  rw[h1];have h2:off<xs.length:=by omega
  have:xs.toArray[off]?=some xs[off]:=by simp[h2]
  rw[this,List.drop_eq_getElem_cons h2];rfl
theorem Qa1(hT:TyOk P ty){g:Nat->Option (List Srt)}{n:Nat}
  (ih:∀t sh,g t=some sh->(Q5 t ty).ok=true->∀(xs ys:List Value)(W:World),xs.map Q3z=sh.map some->ys.map Q3z=sh.map some->(Op.equalIn n t (mkV ty t xs) (mkV ty t ys)).run P W=.ok (Q6u xs ys) W) :
  ∀(fs:List Field)(off:Nat)(sh:List Srt),Qc2 g ty off fs=some sh->∀(xs ys:List Value)(W:World),off<=xs.length->off<=ys.length->(xs.drop off).map Q3z=sh.map some->(ys.drop off).map Q3z=sh.map some ->
   (Op.eqFields n xs.toArray ys.toArray fs).run P W=.ok (Q6u (xs.drop off) (ys.drop off)) W
 | [],off,sh,h,xs,ys,W,_,_,hx,hy=>by
  obtain rfl:[]=sh:=by simpa[Qc2]using h
  have hx:xs.drop off=[]:=by simpa using hx
  have hy:ys.drop off=[]:=by simpa using hy
  rw[hx,hy];rfl
 |f::r,off,sh,h,xs,ys,W,hox,hoy,hx,hy=>by
  simp only[Qc2]at h;split at h
  ·rename_i hf
   obtain⟨hn,ho,hk⟩:=hf;split at h
   ·rename_i s q hs hq
    split at h
    ·rename_i hl
     obtain rfl:s++q=sh:=by simpa using h
     have lx:=Q9B hx;have ly:=Q9B hy;rw[length_drop,length_append]at lx ly;have ex:xs.drop off=(xs.drop off).take s.length++xs.drop (off+s.length):=by rw[<-drop_drop,List.take_append_drop]
     have ey:ys.drop off=(ys.drop off).take s.length++ys.drop (off+s.length):=by rw[<-drop_drop,List.take_append_drop]
     have lxt:((xs.drop off).take s.length).length=s.length:=by rw[length_take,length_drop];omega
     have lyt:((ys.drop off).take s.length).length=s.length:=by rw[length_take,length_drop];omega
     rw[ex,map_append,map_append]at hx;rw[ey,map_append,map_append]at hy;obtain⟨yx,yj⟩:=List.append_inj hx (by simp only[length_map];exact lxt)
     obtain⟨zX,zc⟩:=List.append_inj hy (by simp only[length_map];exact lyt)
     have rc:=Qa1 hT ih r (off+(Q5 f.type ty).size) q hq xs ys;rw[<-hl]at rc;have one:=ih f.type s hs hk _ _ W yx zX;rw[ex,ey,Qly (by rw[lxt,lyt])]
     simp only[Op.eqFields];rw[if_pos hn,Sem.run_bind,ho,Qhq hT hk xs off (by omega) W]
     simp only[Result.andThen_ok];rw[Sem.run_bind,Qhq hT hk ys off (by omega) W]
     simp only[Result.andThen_ok];rw[Sem.run_bind,<-hl,one];simp only[Result.andThen_ok];cases hb:Q6u ((xs.drop off).take s.length) ((ys.drop off).take s.length)with
     |false=>simp
     |true=>simpa using rc W (by omega) (by omega) yj zc
    ·cases h
   ·cases h
  ·cases h
theorem Qc5(hT:TyOk P ty):∀(d e t:Nat)(sh:List Srt),Qdf P ty d t=some sh->(Q5 t ty).ok=true->∀(xs ys:List Value)(W:World),xs.map Q3z=sh.map some->ys.map Q3z=sh.map some ->
  (Op.equalIn (e+d) t (mkV ty t xs) (mkV ty t ys)).run P W=.ok (Q6u xs ys) W
 |0,_,_,_,h,_,_,_,_,_,_=>by cases h
 |d+1,e,t,sh,h,hk,xs,ys,W,hx,hy=>by
  simp only[Qdf]at h;split at h
  ·rename_i fs hu
   split at h
   ·rename_i hp
    have hg:(Q5 t ty).agg=true:=Q7S hT hk hu
    have hS:P.underlying t=some (.struct (P.fieldsOf t)):=by
     rw[hu];simp[Program.fieldsOf,hu]
    have hF:P.fieldsOf t=fs:=by simp[Program.fieldsOf,hu]
    unfold mkV;rw[if_pos hg,if_pos hg,<-add_assoc,run_equalIn_agg W _ _ _ _ hS hp,hF];exact Qa1 hT (fun t sh h hk xs ys W hx hy=>Qc5 hT d e t sh h hk xs ys W hx hy) fs.toList 0 sh h xs ys W (Nat.zero_le _) (Nat.zero_le _) hx hy
   ·cases h
  ·rename_i hu
   have hg:(Q5 t ty).agg=false:=Q7S hT hk hu;obtain rfl:[Srt.boo]=sh:=by simpa using h
   obtain⟨x,rfl,yx⟩:=Q6U hx;obtain⟨y,rfl,zX⟩:=Q6U hy;cases x<;>simp only[Q3z,Option.some.injEq,reduceCtorEq]at yx
   cases y<;>simp only[Q3z,Option.some.injEq,reduceCtorEq]at zX
   unfold mkV;rw[if_neg (by rw[hg];decide),if_neg (by rw[hg];decide)]
   rw[<-add_assoc];refine(run_equalIn_bool' W _ _ _ _ hu).trans ?_;simp[Q6u,eqV]
  ·rename_i hu
   have hg:(Q5 t ty).agg=false:=Q7S hT hk hu;obtain rfl:[Srt.str]=sh:=by simpa using h
   obtain⟨x,rfl,yx⟩:=Q6U hx;obtain⟨y,rfl,zX⟩:=Q6U hy;cases x<;>simp only[Q3z,Option.some.injEq,reduceCtorEq]at yx
   cases y<;>simp only[Q3z,Option.some.injEq,reduceCtorEq]at zX
   unfold mkV;rw[if_neg (by rw[hg];decide),if_neg (by rw[hg];decide)]
   rw[<-add_assoc];refine(run_equalIn_string W _ _ _ _ hu).trans ?_;simp[Q6u,eqV]
  ·rename_i k hu
   have hg:(Q5 t ty).agg=false:=Q7S hT hk hu;obtain rfl:[Srt.int k]=sh:=by simpa using h
   obtain⟨x,rfl,yx⟩:=Q6U hx;obtain⟨y,rfl,zX⟩:=Q6U hy;cases x<;>simp only[Q3z,Option.some.injEq,Srt.int.injEq,reduceCtorEq]at yx
   cases y<;>simp only[Q3z,Option.some.injEq,Srt.int.injEq,reduceCtorEq]at zX
   subst yx zX;unfold mkV;rw[if_neg (by rw[hg];decide),if_neg (by rw[hg];decide)]
   rw[<-add_assoc];refine(run_equalIn_int W _ _ _ _ _ _ hu).trans ?_;simp[Q6u,eqV]
  ·cases h
theorem EqOk.plan(hT:TyOk P ty){T:Nat}{sh:List Srt}(h:Qdf P ty 8 T=some sh)(hk:(Q5 T ty).ok=true)(ha:(Q5 T ty).agg=true)(hg:P.eqGuardType P.depth T=false):EqOk P T sh:=by
 intro xs ys x y W hx hy;have key:=Qc5 hT 8 9992 T sh h hk xs ys W hx hy;unfold mkV at key;rw[if_pos ha,if_pos ha]at key;refine⟨run_eqGuard_agg W _ _ _ _ _ _ hg,run_eqGuard_agg W _ _ _ _ _ _ hg,?_,?_⟩
 ·rw[run_eql_struct]
  rw[show(10000:Nat)=9992+8 from rfl,key];rfl
 ·rw[run_neq_struct]
  rw[show(10000:Nat)=9992+8 from rfl,key];rfl
end
def gl(w:World):Gh:=⟨fun b _=>b<w.heap.size,fun _=>none,fun _=>0,fun _=>false⟩
theorem QqG(w:World):Mem w (gl w) [] :=
 ⟨(fun id cs h=>by simp at h),(fun id cs h=>by simp at h),(fun id s p h=>by simp at h),(fun b id h=>by cases h),(fun b o h=>⟨h,fun id h2=>by cases h2⟩),(fun id et sz fz e xs h=>by simp at h),(fun b h=>by cases h),(fun b b' id h=>by cases h)⟩
theorem BCall.law{P:Program}{f:Nat}{vs:List Value}{args:List AV}{res:Value}(h:BCall P f args [] (.val res) [])(w:World)(hL:Q4X w (gl w) [] vs args) :
  Calls P f vs.toArray w fun e w'=>e=.returned res/\Below w.heap.size w w' :=
 (h.2 w (gl w) vs (QqG w) hL).mono fun e w' ⟨v,g',k1,k2,k3,k4⟩=>by
  have hv:v=res:=ARel.valEq (g:=g') (w:=w') (ob:=[]) k3;subst hv;exact⟨k1,k4.os,k4.tape,k4.output,k4.size,fun b hb=>k4.keep b hb rfl⟩
theorem argL_nil{w:World}{g:Gh}{ob:List Ob}:Q4X w g ob [] []:=⟨rfl,fun j v x h=>by simp at h⟩
theorem argL_cons{w:World}{g:Gh}{ob:List Ob}{v:Value}{x:AV}{vs:List Value}{xs:List AV}(h:ARel1 w g ob v x)(hr:Q4X w g ob vs xs):Q4X w g ob (v::vs) (x::xs):=by
 refine⟨by simp[hr.1],fun j u y hu hy=>?_⟩
 cases j with
 |zero =>
  obtain rfl:v=u:=by simpa using hu
  obtain rfl:x=y:=by simpa using hy
  exact h
 |succ j=>exact hr.2 j u y (by simpa using hu) (by simpa using hy)
theorem okWide_spot{P:Program}{W:World}{r:Reach}{base:Nat}{t e:TypeId}{x:Addr}{l c:Nat}(ht:P.underlying t=some (.slice e))(h:Value.okWide P W r base t (.slice (some x) l c)):x.spot=none:=by
 simp only[Value.okWide,ht,Cell.okWide,Cell.ok]at h;exact h.2.2.2.1
def QqE(k:IntKind)(w:World)(a:Option Addr)(len cap:Nat)(zs:List Int):Prop :=
 (a=none/\len=0/\cap=0/\zs=[]) \/
 ∃x,a=some x/\len<=cap/\cap<=maxLen/\zs.length=cap/\(∀i,i<zs.length->w.cell? (x.add i)=some (.int k (zs.getD i 0)))/\∀n∈zs,(Lit.int k n).wf=true
theorem QqC{k:IntKind}{w:World}{a:Option Addr}{len cap:Nat}{zs:List Int}(h:QqE k w a len cap zs)(hs:∀x,a=some x->x.spot=none) :
  ARel1 w (gl w) [] (.slice a len cap) (.slc 1 ((zs.take len).map fun n=>.val (.int k n))):=by
 have hr:=(Qqo h).1
 have hl:len=((zs.take len).map fun n=>AV.val (.int k n)).length:=by
  rcases h with ⟨_,rfl,_,rfl⟩|⟨x,_,h1,_,h2,_⟩
  ·rfl
  ·simp;omega
 refine Qln hr (fun b o hb=>hb) hl (fun x hx=>by obtain⟨n,_,rfl⟩:=mem_map.1 hx;rfl) (fun x hx=>?_) ?_
 ·obtain⟨b,o,s⟩:=x
  exact⟨b,o,by rw[show s=none from hs _ hx]⟩
 ·have:QQ ((zs.take len).map fun n=>AV.val (.int k n))=((zs.take len).map (Value.int k)).map .val:=by
   generalize zs.take len=l;induction l with
   |nil=>rfl
   |cons n r ih=>simp only[map_cons,QQ,List.flatMap_cons]at ih ⊢;rw[ih];rfl
  rw[this];refine⟨by simp,fun j y u hy hu=>?_⟩
  rw[getElem?_map,hy]at hu;obtain rfl:AV.val y=u:=by simpa using hu
  obtain⟨n,_,rfl⟩:=mem_map.1 (List.mem_of_getElem? hy);exact PRel.val _ rfl
theorem QqK{n:Int}(h:(Lit.int .u8 n).wf=true):((UInt8.ofNat n.toNat).toNat:Int)=n:=by
 have h:0<=n/\n<=255:=by simpa[Lit.wf,IntKind.min,IntKind.max,IntKind.signed,IntKind.bits]using h
 rw[UInt8.toNat_ofNat'];omega
theorem arg_bytes{w:World}{a:Option Addr}{len cap:Nat}{zs:List Int}(h:QqE .u8 w a len cap zs)(hs:∀x,a=some x->x.spot=none) :
  ARel1 w (gl w) [] (.slice a len cap) (.slc 1 (Q2 ((zs.take len).map fun n=>UInt8.ofNat n.toNat))):=by
 have h1:=QqC h hs;have h2:=(Qqo h).2
 have e:Q2 ((zs.take len).map fun n=>UInt8.ofNat n.toNat)=(zs.take len).map fun n=>.val (.int .u8 n):=by
  rw[Q2,List.map_map];refine List.map_congr_left fun n hn=>?_
  show AV.val (.int .u8 ((UInt8.ofNat n.toNat).toNat:Int))=_;rw[QqK (h2 n hn)]
 rw[e];exact h1
theorem Qvx{w:World}{a:Option Addr}{len cap:Nat}{zs:List Int}(h:QqE .i64 w a len cap zs)(hs:∀x,a=some x->x.spot=none) :
  ARel1 w (gl w) [] (.slice a len cap) (.slc 1 (Q9 (zs.take len))):=QqC h hs
theorem arg_val{w:World}{v:Value}(h:v.oneCell'=true):ARel1 w (gl w) [] v (.val v):=PRel.val v h
section
open Tryz
theorem Qut(l:List Int)(k:Int)(hl:l.length<=1000000):BCall prog 66 [.slc 1 (Q9 l),.val (.int .i64 k)] [] (.slc 1 (Q9 (l++[k]))) []:=by
 have e:Q9 (l++[k])=std.app (std.app [] (Q9 l)) [.val (.int .i64 k)]:=by rw[Q4T];rfl
 have j1:=Q2w l;rw[e];refine fnN (cs0) func66 rfl fun _ _=>?_
 with_reducible refine cv1 (Q9 l) ?_
 refine⟨?_,?_,.pure rfl (.inl rfl)⟩
 ·show 0+(Q9 l).length<=1000000000
  omega
 ·show([]++Q9 l).length+1<=1000000000
  rw[List.nil_append];omega
theorem Qsc{a b:List Int}{i:Nat}(ha:i<a.length)(hb:i<b.length)(h:a.take i=b.take i):a.take (i+1)=b.take (i+1)↔a[i]?.getD 0=b[i]?.getD 0:=by
 rw[take_add_one,take_add_one (l:=b),h,getElem?_eq_getElem ha,getElem?_eq_getElem hb,List.append_cancel_left_eq];simp
theorem Qtl(a b:List Int)(ha:a.length<=1000000)(hb:b.length<=1000000):BCall prog 26 [.slc 1 (Q9 a),.slc 1 (Q9 b)] [] (.val (.bool (decide (a=b)))) []:=by
 obtain⟨n,hn⟩:=QE a;obtain⟨m,hm⟩:=QE b;have hla:std.len (Q9 a)=n:=by show((Q9 a).length:Int)=n;rw[Q2w,hn.eq]
 have xS:std.len (Q9 b)=m:=by show((Q9 b).length:Int)=m;rw[Q2w,hm.eq]
 have qD:0<=n/\n<=1000000:=by rw[hn.eq];omega
 have qB:n=m↔a.length=b.length:=by rw[hn.eq,hm.eq];omega
 have jV:∀i:Int,0<=i->i<n->std.nth (std.cel (std.at_ (Q9 a) i)) 0=.val (.int .i64 (a[i.toNat]?.getD 0)):=fun i h0 h1=>QdH h0 (by rw[<-hn.eq];exact h1)
 have hbt:∀i:Int,0<=i->i<m->std.nth (std.cel (std.at_ (Q9 b) i)) 0=.val (.int .i64 (b[i.toNat]?.getD 0)):=fun i h0 h1=>QdH h0 (by rw[<-hm.eq];exact h1)
 have jI:∀i:Int,0<=i->i<n->n=m->a.take i.toNat=b.take i.toNat->(a.take (i+1).toNat=b.take (i+1).toNat↔a[i.toNat]?.getD 0=b[i.toNat]?.getD 0):=fun i h0 h1 h2 h3=>by
  have e1:=hn.eq;have e2:=hm.eq;rw[show(i+1).toNat=i.toNat+1 by omega]
  exact Qsc (by omega) (by omega) h3
 have vD:n=m->a.take n.toNat=b.take n.toNat->a=b:=fun h h2=>by
  have e1:=hn.eq;have e2:=hm.eq;rwa [take_of_length_le (by omega),take_of_length_le (by omega)]at h2
 obtain⟨R,hR⟩:=exq (decide (a=b));rw[<-hR];have hT:a=b->R=true:=fun h=>by rw[hR,h];simp
 have hF:¬a=b->R=false:=fun h=>by rw[hR];exact decide_eq_false h
 clear hR ha hb;refine fnN (cs0) func26 rfl fun _ _=>?_
 with_reducible refine cv2 (Q9 a) (Q9 b) ?_
 refine⟨fun h=>?_,fun h=>?_⟩
 ·have h:(!(std.len (Q9 a) == std.len (Q9 b)))=true:=h
  rw[hla,xS]at h;rw[hF (fun e=>by have:=qB.2 (congrArg List.length e);simp[this]at h)]
  exact .pure rfl (.inl rfl)
 ·have h:(!(std.len (Q9 a) == std.len (Q9 b)))=false:=h
  rw[hla,xS]at h;have qB:n=m:=by simpa using h
  refine Q1h (cs0) (Int) (fun i=>⟨[(0,.slc 1 (Q9 a)),(1,.slc 1 (Q9 b)),(12,.val (.int .i64 n)),(13,.val (.int .i64 i))],[]⟩) (fun i=>0<=i/\i<=n/\a.take i.toNat=b.take i.toNat) (fun i=>(n-i).toNat) 0 ?_ ?_ ?_
  ·exact⟨Int.le_refl 0,qD.1,by simp⟩
  ·refine⟨[],_,rfl,?_⟩
   exact eq1 hla
  ·rintro i ⟨jK,qi,hi⟩
   have jK:0<=i:=jK;have qi:i<=n:=qi;have hi:a.take i.toNat=b.take i.toNat:=hi;with_reducible refine cv2 (Q9 a) (Q9 b) ?_
   refine⟨fun h2=>?_,fun h2=>?_⟩
   ·have jM:i<n:=of_decide_eq_true h2
    have hx:=jV i jK jM;have hy:=hbt i jK (qB ▸ jM);have hs:=jI i jK jM qB hi;refine⟨⟨jK,by show i<std.len (Q9 a);rw[hla];exact jM⟩,⟨QmM hx,trivial⟩,⟨jK,by show i<std.len (Q9 b);rw[xS,<-qB];exact jM⟩,⟨QmM hy,trivial⟩,fun h3=>?_,fun h3=>?_⟩
    ·have h3:(!(std.int (std.nth (std.cel (std.at_ (Q9 a) i)) 0) == std.int (std.nth (std.cel (std.at_ (Q9 b) i)) 0)))=true:=h3
     rw[Ql3 hx,Ql3 hy]at h3;rw[hF (fun e=>by rw[e]at h3;simp at h3)]
     with_reducible refine cv2 (Q9 a) (Q9 b) ?_
     exact .pure rfl (.inl rfl)
    ·have h3:(!(std.int (std.nth (std.cel (std.at_ (Q9 a) i)) 0) == std.int (std.nth (std.cel (std.at_ (Q9 b) i)) 0)))=false:=h3
     rw[Ql3 hx,Ql3 hy]at h3;refine⟨?_,i+1,⟨by omega,by omega,hs.2 (by simpa using h3)⟩,by omega,[],_,rfl,?_⟩
     ·show std.inR .i64 (i+1)
      rw[Qhr];omega
     ·exact eq0
   ·have jM:i=n:=by
     have h2:¬i<n:=of_decide_eq_false h2;omega
    rw[jM]at hi;rw[hT (vD qB hi),if_pos trivial];with_reducible refine cv2 (Q9 a) (Q9 b) ?_
    exact .pure rfl (.inl rfl)
end
theorem Qtq(l:List Int)(k:Nat)(v:Int):Q9 (l.set k v)=(Q9 l).set k (.val (.int .i64 v)):=by rw[Q9,Q9,map_set];rfl
theorem QrP(l:List Int)(i:Int)(v:Int):std.setx (Q9 l) i 0 [.val (.int .i64 v)]=Q9 (l.set i.toNat v):=by
 rw[Qtq];show(Q9 l).set i.toNat (Qti ((Q9 l).getD i.toNat .dead) 0 [.val (.int .i64 v)])=_
 congr 1
 rw[getD_eq_getElem?_getD,Q9,getElem?_map];cases l[i.toNat]?<;>rfl
section
open Tryz
theorem Qc(l:List Int)(hl:l.length<=1000000000)(hi:I32 l)(k:Int)(h0:0<=k)(hk:k<=l.length)(s:ByteArray)(hs:s.size<=1000000000):BCall prog 151 [.slc 1 (Q0 l),.val (.int .i64 k),.val (.string s)] [] (.val (.bool (Q6 l k.toNat s.data.toList))) []:=by
 refine BCall.hand (enters_of func151 (by kernel_rfl) rfl) fun w g vs M hL=>?_
 obtain⟨v1,vs1,rfl,h1,hL⟩:=Q13 hL;obtain⟨v2,vs2,rfl,h2,hL⟩:=Q13 hL;obtain⟨v3,vs3,rfl,h3,hL⟩:=Q13 hL;obtain rfl:=Q2A hL;obtain⟨A,c,rfl,hr⟩:=Q4j h1 M;obtain rfl:=Q31 h2;obtain rfl:=Q31 h3;have:=Qf0 _ A _ c l k.toNat s w hr (by omega) hl hs hi
 rw[Int.toNat_of_nonneg h0]at this;exact this.mono fun e w' ⟨h,hb⟩=>⟨_,h,hb,PRel.val _ rfl⟩
theorem Q4G(l:List Int)(hl:l.length<=1000000000)(k:Int)(h0:0<=k)(hk:k<=1000000000):BCall prog 188 [.slc 1 (Q0 l),.val (.int .i64 k)] [] (.val (.int .i64 (Qj l k.toNat))) []:=by
 refine BCall.hand (enters_of func188 (by kernel_rfl) rfl) fun w g vs M hL=>?_
 obtain⟨v1,vs1,rfl,h1,hL⟩:=Q13 hL;obtain⟨v2,vs2,rfl,h2,hL⟩:=Q13 hL;obtain rfl:=Q2A hL;obtain⟨A,c,rfl,hr⟩:=Q4j h1 M;obtain rfl:=Q31 h2;have:=QbQ _ A _ c l k.toNat w hr (by omega) hl
 rw[Int.toNat_of_nonneg h0]at this;exact this.mono fun e w' ⟨h,hb⟩=>⟨_,h,hb ▸ Below.refl _ _,PRel.val _ rfl⟩
theorem Qag(r:Int):BCall prog 187 [.val (.int .i32 r)] [] (.val (.bool (Qd r))) []:=by
 refine BCall.hand (enters_of func187 (by kernel_rfl) rfl) fun w g vs M hL=>?_
 obtain⟨v1,vs1,rfl,h1,hL⟩:=Q13 hL;obtain rfl:=Q2A hL;obtain rfl:=Q31 h1;exact(Qgp r w).mono fun e w' ⟨h,hb⟩=>⟨_,h,hb ▸ Below.refl _ _,PRel.val _ rfl⟩
theorem Q6j(r:Int):BCall prog 155 [.val (.int .i32 r)] [] (.val (.bool (Qp r))) []:=by
 refine BCall.hand (enters_of func155 (by kernel_rfl) rfl) fun w g vs M hL=>?_
 obtain⟨v1,vs1,rfl,h1,hL⟩:=Q13 hL;obtain rfl:=Q2A hL;obtain rfl:=Q31 h1;exact(Q4V r w).mono fun e w' ⟨h,hb⟩=>⟨_,h,hb ▸ Below.refl _ _,PRel.val _ rfl⟩
def QlR(a b c:Bool)(r:Int):Int:=if c=true then r-55 else if b=true then r-87 else if a=true then r-48 else -1
def Q1t(r base:Int):Int:=if base<=QlR (isF r 48 57) (isF r 97 102) (isF r 65 70) r then -1 else QlR (isF r 48 57) (isF r 97 102) (isF r 65 70) r
theorem Qoh(r lo hi:Int):BCall prog 197 [.val (.int .i32 r),.val (.int .i32 lo),.val (.int .i32 hi)] [] (.val (.bool (isF r lo hi))) []:=by
 refine BCall.hand (enters_of func197 (by kernel_rfl) rfl) fun w g vs M hL=>?_
 obtain⟨v1,vs1,rfl,h1,hL⟩:=Q13 hL;obtain⟨v2,vs2,rfl,h2,hL⟩:=Q13 hL;obtain⟨v3,vs3,rfl,h3,hL⟩:=Q13 hL;obtain rfl:=Q2A hL;obtain rfl:=Q31 h1;obtain rfl:=Q31 h2;obtain rfl:=Q31 h3;exact(Q2P r lo hi w).mono fun e w' ⟨h,hb⟩=>⟨_,h,hb ▸ Below.refl _ _,PRel.val _ rfl⟩
def Qpi(a b c:Bool):Nat->List AV->List Ob->Option (AV×List Ob):=fun f args _=>match f,args with
 |197,[.val (.int .i32 _),.val (.int .i32 48),.val (.int .i32 57)]=>some (.val (.bool a),[])
 |197,[.val (.int .i32 _),.val (.int .i32 97),.val (.int .i32 102)]=>some (.val (.bool b),[])
 |197,[.val (.int .i32 _),.val (.int .i32 65),.val (.int .i32 70)]=>some (.val (.bool c),[])
 |_,_=>none
theorem Q4Y(r base:Int)(hr:-1<=r/\r<=1114111):BCall prog 199 [.val (.int .i32 r),.val (.int .i64 base)] [] (.val (.int .i64 (Q1t r base))) []:=by
 have ca:=Qoh r 48 57;have cb:=Qoh r 97 102;have cc:=Qoh r 65 70;obtain⟨a,ha⟩:=exq (isF r 48 57);obtain⟨b,hb⟩:=exq (isF r 97 102);obtain⟨c,hc⟩:=exq (isF r 65 70);rw[<-ha]at ca;rw[<-hb]at cb;rw[<-hc]at cc;obtain⟨R,hR⟩:=exq (Q1t r base);rw[<-hR];rw[Q1t,<-ha,<-hb,<-hc]at hR;have hw:IntKind.wrap .i64 r=r:=Q4d .i64 r ⟨by show(-9223372036854775808:Int)<=r;omega,by show r<=(9223372036854775807:Int);omega⟩
 clear ha hb hc;refine fnN (Qpi a b c) func199 rfl fun _ _=>?_
 with_reducible refine cv0 ?_
 simp only[std,hw,decide_eq_true_eq,decide_eq_false_iff_not]
 repeat' first
  |(with_reducible apply And.intro)
  |(with_reducible intro hh)
 all_goals first
  |exact ca
  |exact cb
  |exact cc
  |(show(-9223372036854775808:Int)<=_;omega)
  |(show _<=(9223372036854775807:Int);omega)
  |(refine .pure rfl (.inl ?_);simp_all [QlR])
def Q2Q(q r:Int):Int×Int:=if q=0/\(r=34\/r=39)then(r,0)else if q≠0/\r=q then(0,0)else(q,q)
def qSt(l:List Int)(f:Nat):Nat->Int
 |0=>0
 |m+1=>(Q2Q (qSt l f m) (l[f+m]?.getD 0)).1
def QbG(l:List Int)(f m:Nat):Int:=(Q2Q (qSt l f m) (l[f+m]?.getD 0)).2
def qTo(l:List Int)(f k:Nat):List Int:=(List.range l.length).map fun i=>if f<=i/\i<k then QbG l f (i-f)else 0
def qL(l:List Int)(f:Nat):List Int:=qTo l f l.length
theorem QgV(l:List Int)(f k:Nat):(qTo l f k).length=l.length:=by simp[qTo]
theorem QeO(l:List Int)(f k:Nat)(hf:f<=k)(h:k<l.length):qTo l f (k+1)=(qTo l f k).set k (QbG l f (k-f)):=by
 apply List.ext_getElem
 ·simp[qTo]
 ·intro i h1 h2
  rw[List.getElem_set];simp only[qTo,List.getElem_map,List.getElem_range];by_cases hi:k=i
  ·subst hi
   rw[if_pos ⟨hf,by omega⟩,if_pos rfl]
  ·rw[if_neg hi]
   by_cases h3:f<=i/\i<k
   ·rw[if_pos ⟨h3.1,by omega⟩,if_pos h3]
   ·rw[if_neg (by omega),if_neg h3]
theorem QgC(l:List Int)(f k:Nat)(h:k<l.length):(qTo l f k)[k]?=some 0:=by
 rw[qTo,getElem?_map,List.getElem?_range h];show some (if f<=k/\k<k then _ else(0:Int))=_;rw[if_neg (by omega)]
theorem Ql0(l:List Int)(f k:Nat)(hf:f<=k)(h:k<l.length)(hs:QbG l f (k-f)=0):qTo l f (k+1)=qTo l f k:=by
 rw[QeO l f k hf h,hs];obtain⟨h2,e⟩:=List.getElem?_eq_some_iff.1 (QgC l f k h);have e:(qTo l f k)[k]'h2=0:=e;rw[<-e,List.set_getElem_self]
theorem Qks(l:List Int)(f:Nat):rc (qTo l f f)=(madeCells #[Value.int .i32 0] l.length).toList:=by
 apply List.ext_getElem
 ·simp[rc,qTo,madeCells]
 ·intro i h1 h2
  simp only[rc,qTo,List.getElem_map,List.getElem_range,madeCells,Array.toList_map,Array.toList_range];rw[if_neg (by omega)]
  simp
  rw[Nat.mod_one];rfl
theorem Qli(l:List Int)(k:Nat)(r:Int):(rc l).set k (.int .i32 r)=rc (l.set k r):=by simp[rc,map_set]
theorem QfG(S:Nat->Prop)(A:Option Addr)(n c:Nat)(l:List Int)(f:Nat)(w:World)(hr:Rd w S 1 A n c (rc l))(hf:f<=l.length)(hl:l.length<=1000000000) :
  Calls prog 222 #[.slice A n c,.int .i64 f] w fun e w'=>∃g,e=.returned (.slice (some ⟨g,0,none⟩) l.length l.length)/\Rd w' (fun b=>w.heap.size<=b) 1 (some ⟨g,0,none⟩) l.length l.length (rc (qL l f))/\Below w.heap.size w w':=by
 obtain rfl:=hr.rlen;have hle:=hr.le;have hmx:c<=9223372036854775807:=hr.max;obtain⟨i0,hi,hz0,hz1,hz2⟩:=info_parts QlI;have HR:=hid hr;clear hr;go_enter func222,ntmps222
 go_wp2_with (at_make;refine wpList_make_full _ rfl (.tmp 9) (.tmp 9) 26 rfl w.heap.size 21 i0 (.int .i32 0) 1 underlying26 hi hz0 hz1 .i64 .i64 _ _ l.length rfl rfl rfl rfl (by rw[hz2];omega) (by unfold maxLen;omega) (le_refl _) ?_)
 intro w1 hown hg1;rw[<-Qks l f]at hown;have hb1:Below w.heap.size w w1:=(Below.refl _ w).grown hg1 (le_refl _) (fun k hk=>by cases hk)
 have hfz:∀j,j<l.length->w1.frozen? ⟨w.heap.size,0+j,none⟩=false:=fun j _=>by
  rcases hown.2 with ⟨hv,_⟩|⟨g,cap,cur,hv,_,hg,_⟩
  ·cases hv
  ·injection hv with hv _ _
   injection hv with hv
   injection hv with hv
   subst hv;exact Lib.frozen_of_heap hg _
 obtain⟨g,hg⟩:=exq w.heap.size;have HO:Hid (Rd w1 (fun b=>w.heap.size<=b) 1 (some ⟨g,0,none⟩) l.length l.length (rc (qTo l f f))):=by rw[hg];exact Rd.of_own hown
 rw[<-hg]at hfz ⊢;have hgw:w.heap.size<=g:=by omega
 have HF:=hid hfz;have HB:=hid hb1;clear hfz hb1 hown hg1 hz0 hz1 hz2 hi hg;go_wp2
 go_loopw [6,7] (fun q i wr=>∃(k:Nat),f<=k/\k<=l.length/\q=.int .i32 (qSt l f (k-f))/\i=.int .i64 k/\Hid (Rd wr (fun b=>w.heap.size<=b) 1 (some ⟨g,0,none⟩) l.length l.length (rc (qTo l f k)))/\Hid (∀j,j<l.length->wr.frozen? ⟨g,0+j,none⟩=false)/\Hid (Below w.heap.size w wr))
  (fun _ i _=>l.length-(Go.RowKit.intOf i).toNat)
 case atStart=>exact⟨f,le_refl _,hf,by rw[Nat.sub_self];rfl,rfl,HO.out,HF.out,HB.out⟩
 case round =>
  obtain⟨k,hk0,hk,rfl,rfl,HK,HG,HW⟩:=hrel;by_cases hlt:k<l.length
  ·obtain⟨b,u,rfl,hc1⟩:=(HR.out.below HW.out).rune hlt
   obtain⟨b2,o2,hA,hS,hcell⟩:=HK.out.at_ (by omega)
   injection hA with hA
   injection hA with e1 e2
   subst e1 e2;have hc2:wr.cell? ⟨g,0+k,none⟩=some (.int .i32 0):=hcell k _ (by rw[rc,getElem?_map,QgC l f k hlt];rfl)
   have hfk:=HG.out k hlt;rw[zero_add]at hc2 hfk;have hke:f+(k-f)=k:=by omega
   have HQ:Hid (qSt l f (k+1-f)=(Q2Q (qSt l f (k-f)) l[k]).1):=by
    rw[Hid,show k+1-f=(k-f)+1 by omega,qSt,hke,getElem?_eq_getElem hlt];rfl
   have HO2:Hid (QbG l f (k-f)=(Q2Q (qSt l f (k-f)) l[k]).2):=by
    rw[Hid,QbG,hke,getElem?_eq_getElem hlt];rfl
   have HST:=hid (QeO l f k hk0 hlt);have HSM:=hid (Ql0 l f k hk0 hlt);clear hcell hke HO HF HB;generalize qSt l f (k-f)=q at HQ HO2 ⊢;generalize l[k]=r at hc1 HQ HO2;by_cases hq0:q=0
   ·subst hq0
    by_cases h34:r=34
    ·have HQ2:Hid (qSt l f (k+1-f)=r):=by rw[Hid,HQ.out,Q2Q,if_pos ⟨rfl,.inl h34⟩]
     have HS2:=hid (HSM.out (by rw[HO2.out,Q2Q,if_pos ⟨rfl,.inl h34⟩]))
     clear HQ HO2 HST HSM;subst h34;go_wp2
     go_roundw
     case rel=>exact⟨k+1,by omega,by omega,by rw[HQ2.out],by go_num,by rw[HS2.out];exact HK.out,HG.out,HW.out⟩
     case measure=>simp[Go.RowKit.intOf];omega
    ·by_cases h39:r=39
     ·have HQ2:Hid (qSt l f (k+1-f)=r):=by rw[Hid,HQ.out,Q2Q,if_pos ⟨rfl,.inr h39⟩]
      have HS2:=hid (HSM.out (by rw[HO2.out,Q2Q,if_pos ⟨rfl,.inr h39⟩]))
      clear HQ HO2 HST HSM h34;subst h39;go_wp2
      go_roundw
      case rel=>exact⟨k+1,by omega,by omega,by rw[HQ2.out],by go_num,by rw[HS2.out];exact HK.out,HG.out,HW.out⟩
      case measure=>simp[Go.RowKit.intOf];omega
     ·have hn:¬((0:Int)=0/\(r=34\/r=39)):=fun h=>h.2.elim h34 h39
      have HQ2:Hid (qSt l f (k+1-f)=0):=by rw[Hid,HQ.out,Q2Q,if_neg hn,if_neg (fun h=>h.1 rfl)]
      have HS2:Hid (qTo l f (k+1)=(qTo l f k).set k 0):=by rw[Hid,HST.out,HO2.out,Q2Q,if_neg hn,if_neg (fun h=>h.1 rfl)]
      have h34b:(r == 34)=false:=by simpa using h34
      have h39b:(r == 39)=false:=by simpa using h39
      clear HQ HO2 HST HSM hn h34 h39;go_wp2
      go_roundw
      case rel =>
       refine⟨k+1,by omega,by omega,by rw[HQ2.out],by go_num,?_,fun j hj=>?_,HW.out.setCell hgw _⟩
       ·rw[HS2.out,<-Qli]
        have h9:=HK.out.setB hlt (.int .i32 0);rw[zero_add]at h9;exact h9
       ·rw[World.frozen?_setCell];exact HG.out j hj
      case measure=>simp[Go.RowKit.intOf];omega
   ·have hq0b:(q == 0)=false:=by simpa using hq0
    by_cases hrq:r=q
    ·have hn:¬(q=0/\(r=34\/r=39)):=fun h=>hq0 h.1
     have HQ2:Hid (qSt l f (k+1-f)=0):=by rw[Hid,HQ.out,Q2Q,if_neg hn,if_pos ⟨hq0,hrq⟩]
     have HS2:=hid (HSM.out (by rw[HO2.out,Q2Q,if_neg hn,if_pos ⟨hq0,hrq⟩]))
     clear HQ HO2 HST HSM hn;subst hrq;go_wp2
     go_roundw
     case rel=>exact⟨k+1,by omega,by omega,by rw[HQ2.out],by go_num,by rw[HS2.out];exact HK.out,HG.out,HW.out⟩
     case measure=>simp[Go.RowKit.intOf];omega
    ·have hn:¬(q=0/\(r=34\/r=39)):=fun h=>hq0 h.1
     have HQ2:Hid (qSt l f (k+1-f)=q):=by rw[Hid,HQ.out,Q2Q,if_neg hn,if_neg (fun h=>hrq h.2)]
     have HS2:Hid (qTo l f (k+1)=(qTo l f k).set k q):=by rw[Hid,HST.out,HO2.out,Q2Q,if_neg hn,if_neg (fun h=>hrq h.2)]
     have hrqb:(r == q)=false:=by simpa using hrq
     clear HQ HO2 HST HSM hn hrq;go_wp2
     go_roundw
     case rel =>
      refine⟨k+1,by omega,by omega,by rw[HQ2.out],by go_num,?_,fun j hj=>?_,HW.out.setCell hgw _⟩
      ·rw[HS2.out,<-Qli]
       have h9:=HK.out.setB hlt (.int .i32 q);rw[zero_add]at h9;exact h9
      ·rw[World.frozen?_setCell];exact HG.out j hj
     case measure=>simp[Go.RowKit.intOf];omega
  ·have e:k=l.length:=by omega
   subst e;go_wp2
   go_ret
   exact⟨g,rfl,HK.out,HW.out⟩
end
