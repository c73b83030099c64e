/- Lemmas, conditions told -/
import Derived.Test.YtibemhahkicbpaaGreatJ09
import Derived.Test.YtibemhahkicbpaaGreatJ06
set_option maxRecDepth 99999
set_option maxHeartbeats 0
set_option linter.unusedSimpArgs false
set_option linter.unusedVariables false
namespace Go.Proofs.YtibemhahkicbpaaGreat
open Lib(hid)
open Go.RowKit Go.Lib
section
open Tryz
section
variable {w:World}{g:Gh}{v:Value}
theorem Q4j{l:List Int}(h:ARel1 w g [] v (.slc 1 (Q0 l)))(M:Mem w g []):∃A c,v=.slice A l.length c/\Rd w (fun _=>True) 1 A l.length c (rc l):=by
 obtain⟨A,c,ys,h1,h2,h3⟩:=QnT h M;have e:Q0 l=(rc l).map .val:=by simp[Q0,rc,QgR]
 rw[e,Qai]at h3;obtain rfl:=QbZ h3;rw[Qx]at h1 h2;exact⟨A,c,h1,h2⟩
theorem Qef{l:List UInt8}(h:ARel1 w g [] v (.slc 1 (Q2 l)))(M:Mem w g []):∃A c,v=.slice A l.length c/\Rd w (fun _=>True) 1 A l.length c (bc l):=by
 obtain⟨A,c,ys,h1,h2,h3⟩:=QnT h M;have e:Q2 l=(bc l).map .val:=by simp[Q2,bc,Q6g]
 rw[e,Qai]at h3;obtain rfl:=QbZ h3;rw[Q11]at h1 h2;exact⟨A,c,h1,h2⟩
end
theorem Qpm(l:List Int)(from_:Int)(p:Int->Bool)(f:Nat)(ef:∀args w,(callFunc f args).run prog w=.ok (.enter f args) w)(hp:∀w,Q7L prog f #[] p w) :
  BCall prog 176 [.slc 1 (Q0 l),.val (.int .i64 from_),.val (.func (.func f) #[] #[])] [] (.val (.int .i64 (Q2X p l from_))) []:=by
 refine BCall.hand (enters_of func176 (by kernel_rfl) rfl) fun w g vs M hL=>?_
 obtain⟨v1,vs1,rfl,h1,hL⟩:=Q13 hL;obtain⟨v2,vs2,rfl,h2,hL⟩:=Q13 hL;obtain⟨v3,vs3,rfl,h3,hL⟩:=Q13 hL;obtain rfl:=Q2A hL;obtain⟨A,c,rfl,hr⟩:=Q4j h1 M;obtain rfl:=Q31 h2;obtain rfl:=Q31 h3;exact(Q8g _ A _ c l from_ f #[] p w ef hr (hp w)).mono fun e w' ⟨h,hb⟩=>⟨_,h,hb,PRel.val _ rfl⟩
theorem QoO(l:List Int)(k:Int)(h0:0<=k)(hk:k<=1000000000):BCall prog 183 [.slc 1 (Q0 l),.val (.int .i64 k)] [] (.val (.int .i64 (Qj l k.toNat))) []:=by
 refine BCall.hand (enters_of func183 (by kernel_rfl) rfl) fun w g vs M hL=>?_
 obtain⟨v1,vs1,rfl,h1,hL⟩:=Q13 hL;obtain⟨v2,vs2,rfl,h2,hL⟩:=Q13 hL;obtain rfl:=Q2A hL;obtain⟨A,c,rfl,hr⟩:=Q4j h1 M;obtain rfl:=Q31 h2;have:=Q78 _ A _ c l k.toNat w hr (by omega)
 rw[Int.toNat_of_nonneg h0]at this;exact this.mono fun e w' ⟨h,hb⟩=>⟨_,h,hb,PRel.val _ rfl⟩
theorem Qld(l:List Int)(hl:l.length<=1000000000)(k:Int)(h0:0<=k)(hk:k<=l.length)(s:ByteArray)(hs:s.size<=1000000000):BCall prog 185 [.slc 1 (Q0 l),.val (.int .i64 k),.val (.string s)] [] (.val (.bool (Q6 l k.toNat s.data.toList))) []:=by
 refine BCall.hand (enters_of func185 (by kernel_rfl) rfl) fun w g vs M hL=>?_
 obtain⟨v1,vs1,rfl,h1,hL⟩:=Q13 hL;obtain⟨v2,vs2,rfl,h2,hL⟩:=Q13 hL;obtain⟨v3,vs3,rfl,h3,hL⟩:=Q13 hL;obtain rfl:=Q2A hL;obtain⟨A,c,rfl,hr⟩:=Q4j h1 M;obtain rfl:=Q31 h2;obtain rfl:=Q31 h3;have:=Q24 _ A _ c l k.toNat s w hr (by omega) hl hs
 rw[Int.toNat_of_nonneg h0]at this;exact this.mono fun e w' ⟨h,hb⟩=>⟨_,h,hb,PRel.val _ rfl⟩
structure Tok where
 kind:Int
 from_:Int
 to:Int
 whole:Bool
 deriving Inhabited
def Tok.av(t:Tok):AV:=.agg [.val (.int .i64 t.kind),.val (.int .i64 t.from_),.val (.int .i64 t.to),.val (.bool t.whole)]
def Q1m(l:List Int)(k:Nat):Tok:=⟨(Ql l k).1,k,(Ql l k).2.1,(Ql l k).2.2⟩
theorem QoW(l:List Int)(hl:l.length<=1000000000)(k:Int)(h0:0<=k)(hk:k<l.length):BCall prog 133 [.slc 1 (Q0 l),.val (.int .i64 k)] [] (.tup [(Q1m l k.toNat).av,.val (.bool true)]) []:=by
 refine BCall.hand (enters_of func133 (by kernel_rfl) rfl) fun w g vs M hL=>?_
 obtain⟨v1,vs1,rfl,h1,hL⟩:=Q13 hL;obtain⟨v2,vs2,rfl,h2,hL⟩:=Q13 hL;obtain rfl:=Q2A hL;obtain⟨A,c,rfl,hr⟩:=Q4j h1 M;obtain rfl:=Q31 h2;have:=QhE _ A _ c l k.toNat w hr (by omega) hl
 rw[Int.toNat_of_nonneg h0]at this;refine this.mono fun e w' ⟨h,hb⟩=>⟨_,h,hb,_,rfl,rfl,fun j y u hy hu=>?_⟩
 match j,hy,hu with
 |0,hy,hu =>
  obtain rfl:Q25 (Ql l k.toNat) k.toNat=y:=by simpa using hy
  obtain rfl:(Q1m l k.toNat).av=u:=by simpa using hu
  refine⟨_,rfl,rfl,fun i y u hy hu=>?_⟩
  match i,hy,hu with
  |0,hy,hu=>cases hy;cases hu;exact⟨PRel.val _ rfl,rfl⟩
  |1,hy,hu=>cases hy;cases hu;exact⟨PRel.val _ rfl,rfl⟩
  |2,hy,hu=>cases hy;cases hu;exact⟨PRel.val _ rfl,rfl⟩
  |3,hy,hu=>cases hy;cases hu;exact⟨PRel.val _ rfl,rfl⟩
  |i+4,hy,hu=>simp at hy
 |1,hy,hu =>
  obtain rfl:Value.bool true=y:=by simpa using hy
  obtain rfl:AV.val (.bool true)=u:=by simpa using hu
  exact PRel.val _ rfl
 |j+2,hy,hu=>simp at hy
theorem Qif(l:List Int)(k:Int)(h0:0<=k)(hk:(l.length:Int)<=k):BCall prog 133 [.slc 1 (Q0 l),.val (.int .i64 k)] [] (.tup [.agg [.val (.int .i64 0),.val (.int .i64 0),.val (.int .i64 0),.val (.bool false)],.val (.bool false)]) []:=by
 obtain⟨n,hn⟩:=QE l;have yE:n<=k:=by rw[hn.eq];exact hk
 refine fnN (cs0) func133 rfl fun _ _=>?_
 with_reducible refine cv1 (Q0 l) ?_
 have en:=hn.eq;have ql:=Qx l;with_reducible repeat' first|refine aU (zA ql h0) ?_|refine zA ?_ ?_|intro hb
 exact .pure rfl ⟨⟨.inl rfl,.inl rfl,.inl rfl,.inl rfl,trivial⟩,.inl rfl,trivial⟩
def QA(l:List Tok):List AV:=l.map Tok.av
theorem Q5G(l:List Tok):(QA l).length=l.length:=by simp[QA]
theorem Qei(a b:List Tok):QA (a++b)=QA a++QA b:=by simp[QA]
theorem QdL(t:Tok):QA [t]=[.agg [.val (.int .i64 t.kind),.val (.int .i64 t.from_),.val (.int .i64 t.to),.val (.bool t.whole)]]:=rfl
def Qq3(t:(Nat×Nat×Bool)×Nat):Tok:=⟨t.1.1,t.2,t.1.2.1,t.1.2.2⟩
def Q1S(l:List Int)(k:Nat):List Tok:=(Q4Z l k).map Qq3
def Q1r(l:List Int):List Tok:=Q1S l 0
theorem Q1O{l:List Int}{k:Nat}(h:k<l.length):Q1S l k=Q1m l k::Q1S l (Ql l k).2.1:=by
 rw[Q1S,QbC l k h];rfl
theorem Q1k{l:List Int}{k:Nat}(h:¬k<l.length):Q1S l k=[]:=by rw[Q1S,Qdg l k h];rfl
def Q4v(l:List Int)(k:Int):Tok:=if 0<=k/\k<l.length then Q1m l k.toNat else⟨0,0,0,false⟩
def Q98(l:List Int)(k:Int):Bool:=decide (0<=k/\k<l.length)
theorem Ql1(l:List Int)(hl:l.length<=1000000000)(k:Int)(h0:0<=k):BCall prog 133 [.slc 1 (Q0 l),.val (.int .i64 k)] [] (.tup [.agg [.val (.int .i64 (Q4v l k).kind),.val (.int .i64 (Q4v l k).from_),.val (.int .i64 (Q4v l k).to),.val (.bool (Q4v l k).whole)],.val (.bool (Q98 l k))]) []:=by
 by_cases h:k<l.length
 ·rw[Q4v,if_pos ⟨h0,h⟩,Q98,decide_eq_true ⟨h0,h⟩]
  exact QoW l hl k h0 h
 ·have:¬(0<=k/\k<l.length):=fun x=>h x.2
  rw[Q4v,if_neg this,Q98,decide_eq_false this];exact Qif l k h0 (by omega)
def csN(kd fr to:Int->Int)(wh ok:Int->Bool):Nat->List AV->List Ob->Option (AV×List Ob):=fun f args _=>match f,args with
 |133,[.slc 1 _,.val (.int .i64 k)]=>some (.tup [.agg [.val (.int .i64 (kd k)),.val (.int .i64 (fr k)),.val (.int .i64 (to k)),.val (.bool (wh k))],.val (.bool (ok k))],[])
 |_,_=>none
theorem QeJ(l:List Int)(hl:l.length<=1000000):BCall prog 87 [.slc 1 (Q0 l)] [] (.slc 4 (QA (Q1r l))) []:=by
 have hNx:=fun k h0=>Ql1 l (by omega) k h0
 obtain⟨kd,jD⟩:=exq (fun k=>(Q4v l k).kind:Int->Int)
 obtain⟨fr,vQ⟩:=exq (fun k=>(Q4v l k).from_:Int->Int)
 obtain⟨to,gV⟩:=exq (fun k=>(Q4v l k).to:Int->Int)
 obtain⟨wh,jw⟩:=exq (fun k=>(Q4v l k).whole:Int->Bool)
 obtain⟨ok,jC⟩:=exq (Q98 l:Int->Bool);have hNx:∀k,0<=k->BCall prog 133 [.slc 1 (Q0 l),.val (.int .i64 k)] [] (.tup [.agg [.val (.int .i64 (kd k)),.val (.int .i64 (fr k)),.val (.int .i64 (to k)),.val (.bool (wh k))],.val (.bool (ok k))]) []:=fun k h0=>by rw[jD,vQ,gV,jw,jC];exact hNx k h0
 obtain⟨n,hn⟩:=QE l
 have jc:∀k:Int,0<=k->k<n->to k=((Ql l k.toNat).2.1:Nat)/\k<to k/\to k<=n/\Q1m l k.toNat=⟨kd k,fr k,to k,wh k⟩/\ok k=true:=fun k h0 h1=>by
  have e:=hn.eq;have h2:Q4v l k=Q1m l k.toNat:=by rw[Q4v,if_pos ⟨h0,by omega⟩]
  have h3:=Q2E l k.toNat (by omega)
  have h4:to k=((Ql l k.toNat).2.1:Nat):=by rw[gV];simp only[h2];rfl
  refine⟨h4,by omega,by omega,?_,?_⟩
  ·rw[jD,vQ,gV,jw];simp only[h2]
  ·rw[jC];simp[Q98];omega
 have qT:∀k:Int,0<=k->¬k<n->ok k=false:=fun k h0 h1=>by
  have e:=hn.eq;rw[jC];simp[Q98];omega
 clear jD vQ gV jw jC;refine fnN (csN kd fr to wh ok) func87 rfl fun _ _=>?_
 with_reducible refine cv1 (Q0 l) ?_
 refine⟨hNx 0 (by omega),?_⟩
 refine Q1h (csN kd fr to wh ok) (List Tok×Int) (fun x=>⟨[(0,.slc 1 (Q0 l)),(3,.row 0 0),(4,.box 1 0),(5,.val (.bool (ok x.2)))],[.row 185 4 false 0 (QA x.1),.box [.val (.int .i64 (kd x.2)),.val (.int .i64 (fr x.2)),.val (.int .i64 (to x.2)),.val (.bool (wh x.2))]]⟩) (fun x=>0<=x.2/\x.2<=n/\x.1++Q1S l x.2.toNat=Q1r l/\(x.1.length:Int)<=x.2) (fun x=>(n-x.2).toNat) ([],0) ?_ ?_ ?_
 ·have:=hn.eq
  exact⟨by omega,by simp only;omega,rfl,by simp⟩
 ·exact⟨[none,some 0],_,rfl,by simp[Qe,lk,QA]⟩
 ·rintro⟨out,k⟩ ⟨js,qE,j9,j6⟩
  simp only at js qE j9 j6
  have jR:=Q5G out;have en:=hn.eq;have xi:out.length<=1000000:=by omega
  obtain⟨q,hq⟩:=QE out;have qJ:q<=k:=by rw[hq.eq];exact j6
  clear en;by_cases hk:k<n
  ·obtain⟨s1,s2,s3,s4,s5⟩:=jc k js hk
   have s6:=hNx (to k) (by omega)
   have en:=hn.eq
   have hG:out++[⟨kd k,fr k,to k,wh k⟩]++Q1S l (to k).toNat=Q1r l:=by
    rw[<-j9,Q1O (k:=k.toNat) (by omega),s4,s1,Int.toNat_natCast];simp
   clear s1 en;with_reducible refine cv2 (Q0 l) (QA out) ?_
   have eq:=hq.eq;with_reducible repeat' first|refine aU (zA jR <| zA s5 s6) ?_|refine zA ?_ ?_|intro hb
   exact⟨(out++[⟨kd k,fr k,to k,wh k⟩],to k),⟨by simp only;omega,s3,hG,by show((out++[_]).length:Int)<=to k;simp only[List.length_append,List.length_singleton];omega⟩,by simp only;omega,[some 0,some 3],_,rfl,by simp[Qe,lk,std,Qei,QdL]⟩
  ·have s5:=qT k js hk
   have en:=hn.eq;have hG:out=Q1r l:=by rw[<-j9,Q1k (by omega),List.append_nil]
   clear en;with_reducible refine cv2 (Q0 l) (QA out) ?_
   with_reducible repeat' first|refine aU s5 ?_|refine zA ?_ ?_|intro hb
   rw[if_pos trivial];with_reducible refine cv2 (Q0 l) (QA out) ?_
   exact .pure rfl (.inl (by rw[hG]))
theorem Qc(l:List Int)(hl:l.length<=1000000000)(hi:I32 l)(k:Int)(h0:0<=k)(hk:k<=l.length)(s:ByteArray)(hs:s.size<=1000000000):BCall prog 151 [.slc 1 (Q0 l),.val (.int .i64 k),.val (.string s)] [] (.val (.bool (Q6 l k.toNat s.data.toList))) []:=by
 refine BCall.hand (enters_of func151 (by kernel_rfl) rfl) fun w g vs M hL=>?_
 obtain⟨v1,vs1,rfl,h1,hL⟩:=Q13 hL;obtain⟨v2,vs2,rfl,h2,hL⟩:=Q13 hL;obtain⟨v3,vs3,rfl,h3,hL⟩:=Q13 hL;obtain rfl:=Q2A hL;obtain⟨A,c,rfl,hr⟩:=Q4j h1 M;obtain rfl:=Q31 h2;obtain rfl:=Q31 h3;have:=Qf0 _ A _ c l k.toNat s w hr (by omega) hl hs hi
 rw[Int.toNat_of_nonneg h0]at this;exact this.mono fun e w' ⟨h,hb⟩=>⟨_,h,hb,PRel.val _ rfl⟩
theorem Q4G(l:List Int)(hl:l.length<=1000000000)(k:Int)(h0:0<=k)(hk:k<=1000000000):BCall prog 188 [.slc 1 (Q0 l),.val (.int .i64 k)] [] (.val (.int .i64 (Qj l k.toNat))) []:=by
 refine BCall.hand (enters_of func188 (by kernel_rfl) rfl) fun w g vs M hL=>?_
 obtain⟨v1,vs1,rfl,h1,hL⟩:=Q13 hL;obtain⟨v2,vs2,rfl,h2,hL⟩:=Q13 hL;obtain rfl:=Q2A hL;obtain⟨A,c,rfl,hr⟩:=Q4j h1 M;obtain rfl:=Q31 h2;have:=QbQ _ A _ c l k.toNat w hr (by omega) hl
 rw[Int.toNat_of_nonneg h0]at this;exact this.mono fun e w' ⟨h,hb⟩=>⟨_,h,hb ▸ Below.refl _ _,PRel.val _ rfl⟩
theorem Qag(r:Int):BCall prog 187 [.val (.int .i32 r)] [] (.val (.bool (Qd r))) []:=by
 refine BCall.hand (enters_of func187 (by kernel_rfl) rfl) fun w g vs M hL=>?_
 obtain⟨v1,vs1,rfl,h1,hL⟩:=Q13 hL;obtain rfl:=Q2A hL;obtain rfl:=Q31 h1;exact(Qgp r w).mono fun e w' ⟨h,hb⟩=>⟨_,h,hb ▸ Below.refl _ _,PRel.val _ rfl⟩
theorem Q6j(r:Int):BCall prog 155 [.val (.int .i32 r)] [] (.val (.bool (Qp r))) []:=by
 refine BCall.hand (enters_of func155 (by kernel_rfl) rfl) fun w g vs M hL=>?_
 obtain⟨v1,vs1,rfl,h1,hL⟩:=Q13 hL;obtain rfl:=Q2A hL;obtain rfl:=Q31 h1;exact(Q4V r w).mono fun e w' ⟨h,hb⟩=>⟨_,h,hb ▸ Below.refl _ _,PRel.val _ rfl⟩
def QlR(a b c:Bool)(r:Int):Int:=if c=true then r-55 else if b=true then r-87 else if a=true then r-48 else -1
def Q1t(r base:Int):Int:=if base<=QlR (isF r 48 57) (isF r 97 102) (isF r 65 70) r then -1 else QlR (isF r 48 57) (isF r 97 102) (isF r 65 70) r
theorem Qoh(r lo hi:Int):BCall prog 197 [.val (.int .i32 r),.val (.int .i32 lo),.val (.int .i32 hi)] [] (.val (.bool (isF r lo hi))) []:=by
 refine BCall.hand (enters_of func197 (by kernel_rfl) rfl) fun w g vs M hL=>?_
 obtain⟨v1,vs1,rfl,h1,hL⟩:=Q13 hL;obtain⟨v2,vs2,rfl,h2,hL⟩:=Q13 hL;obtain⟨v3,vs3,rfl,h3,hL⟩:=Q13 hL;obtain rfl:=Q2A hL;obtain rfl:=Q31 h1;obtain rfl:=Q31 h2;obtain rfl:=Q31 h3;exact(Q2P r lo hi w).mono fun e w' ⟨h,hb⟩=>⟨_,h,hb ▸ Below.refl _ _,PRel.val _ rfl⟩
def Qpi(a b c:Bool):Nat->List AV->List Ob->Option (AV×List Ob):=fun f args _=>match f,args with
 |197,[.val (.int .i32 _),.val (.int .i32 48),.val (.int .i32 57)]=>some (.val (.bool a),[])
 |197,[.val (.int .i32 _),.val (.int .i32 97),.val (.int .i32 102)]=>some (.val (.bool b),[])
 |197,[.val (.int .i32 _),.val (.int .i32 65),.val (.int .i32 70)]=>some (.val (.bool c),[])
 |_,_=>none
theorem Q4Y(r base:Int)(hr:-1<=r/\r<=1114111):BCall prog 199 [.val (.int .i32 r),.val (.int .i64 base)] [] (.val (.int .i64 (Q1t r base))) []:=by
 have ca:=Qoh r 48 57;have cb:=Qoh r 97 102;have cc:=Qoh r 65 70;obtain⟨a,ha⟩:=exq (isF r 48 57);obtain⟨b,hb⟩:=exq (isF r 97 102);obtain⟨c,hc⟩:=exq (isF r 65 70);rw[<-ha]at ca;rw[<-hb]at cb;rw[<-hc]at cc;obtain⟨R,hR⟩:=exq (Q1t r base);rw[<-hR];rw[Q1t,<-ha,<-hb,<-hc]at hR;have hw:IntKind.wrap .i64 r=r:=Q4d .i64 r ⟨by show(-9223372036854775808:Int)<=r;omega,by show r<=(9223372036854775807:Int);omega⟩
 clear ha hb hc;refine fnN (Qpi a b c) func199 rfl fun _ _=>?_
 with_reducible refine cv0 ?_
 simp only[std,hw,decide_eq_true_eq,decide_eq_false_iff_not]
 repeat' first
  |(with_reducible apply And.intro)
  |(with_reducible intro hh)
 all_goals first
  |exact ca
  |exact cb
  |exact cc
  |(show(-9223372036854775808:Int)<=_;omega)
  |(show _<=(9223372036854775807:Int);omega)
  |(refine .pure rfl (.inl ?_);simp_all [QlR])
def Q2Q(q r:Int):Int×Int:=if q=0/\(r=34\/r=39)then(r,0)else if q≠0/\r=q then(0,0)else(q,q)
def qSt(l:List Int)(f:Nat):Nat->Int
 |0=>0
 |m+1=>(Q2Q (qSt l f m) (l[f+m]?.getD 0)).1
def QbG(l:List Int)(f m:Nat):Int:=(Q2Q (qSt l f m) (l[f+m]?.getD 0)).2
def qTo(l:List Int)(f k:Nat):List Int:=(List.range l.length).map fun i=>if f<=i/\i<k then QbG l f (i-f)else 0
def qL(l:List Int)(f:Nat):List Int:=qTo l f l.length
theorem QgV(l:List Int)(f k:Nat):(qTo l f k).length=l.length:=by simp[qTo]
theorem QeO(l:List Int)(f k:Nat)(hf:f<=k)(h:k<l.length):qTo l f (k+1)=(qTo l f k).set k (QbG l f (k-f)):=by
 apply List.ext_getElem
 ·simp[qTo]
 ·intro i h1 h2
  rw[List.getElem_set];simp only[qTo,List.getElem_map,List.getElem_range];by_cases hi:k=i
  ·subst hi
   rw[if_pos ⟨hf,by omega⟩,if_pos rfl]
  ·rw[if_neg hi]
   by_cases h3:f<=i/\i<k
   ·rw[if_pos ⟨h3.1,by omega⟩,if_pos h3]
   ·rw[if_neg (by omega),if_neg h3]
theorem QgC(l:List Int)(f k:Nat)(h:k<l.length):(qTo l f k)[k]?=some 0:=by
 rw[qTo,List.getElem?_map,List.getElem?_range h];show some (if f<=k/\k<k then _ else(0:Int))=_;rw[if_neg (by omega)]
theorem Ql0(l:List Int)(f k:Nat)(hf:f<=k)(h:k<l.length)(hs:QbG l f (k-f)=0):qTo l f (k+1)=qTo l f k:=by
 rw[QeO l f k hf h,hs];obtain⟨h2,e⟩:=List.getElem?_eq_some_iff.1 (QgC l f k h);have e:(qTo l f k)[k]'h2=0:=e;rw[<-e,List.set_getElem_self]
theorem Qks(l:List Int)(f:Nat):rc (qTo l f f)=(madeCells #[Value.int .i32 0] l.length).toList:=by
 apply List.ext_getElem
 ·simp[rc,qTo,madeCells]
 ·intro i h1 h2
  simp only[rc,qTo,List.getElem_map,List.getElem_range,madeCells,Array.toList_map,Array.toList_range];rw[if_neg (by omega)]
  simp
  rw[Nat.mod_one];rfl
theorem Qli(l:List Int)(k:Nat)(r:Int):(rc l).set k (.int .i32 r)=rc (l.set k r):=by simp[rc,List.map_set]
theorem QfG(S:Nat->Prop)(A:Option Addr)(n c:Nat)(l:List Int)(f:Nat)(w:World)(hr:Rd w S 1 A n c (rc l))(hf:f<=l.length)(hl:l.length<=1000000000) :
  Calls prog 222 #[.slice A n c,.int .i64 f] w fun e w'=>∃g,e=.returned (.slice (some ⟨g,0,none⟩) l.length l.length)/\Rd w' (fun b=>w.heap.size<=b) 1 (some ⟨g,0,none⟩) l.length l.length (rc (qL l f))/\Below w.heap.size w w':=by
 obtain rfl:=hr.rlen;have hle:=hr.le;have hmx:c<=9223372036854775807:=hr.max;obtain⟨i0,hi,hz0,hz1,hz2⟩:=info_parts QlI;have HR:=hid hr;clear hr;go_enter func222,ntmps222
 go_wp2_with (at_make;refine wpList_make_full _ rfl (.tmp 9) (.tmp 9) 26 rfl w.heap.size 21 i0 (.int .i32 0) 1 underlying26 hi hz0 hz1 .i64 .i64 _ _ l.length rfl rfl rfl rfl (by rw[hz2];omega) (by unfold maxLen;omega) (Nat.le_refl _) ?_)
 intro w1 hown hg1;rw[<-Qks l f]at hown;have hb1:Below w.heap.size w w1:=(Below.refl _ w).grown hg1 (Nat.le_refl _) (fun k hk=>by cases hk)
 have hfz:∀j,j<l.length->w1.frozen? ⟨w.heap.size,0+j,none⟩=false:=fun j _=>by
  rcases hown.2 with ⟨hv,_⟩|⟨g,cap,cur,hv,_,hg,_⟩
  ·cases hv
  ·injection hv with hv _ _
   injection hv with hv
   injection hv with hv
   subst hv;exact Lib.frozen_of_heap hg _
 obtain⟨g,hg⟩:=exq w.heap.size;have HO:Hid (Rd w1 (fun b=>w.heap.size<=b) 1 (some ⟨g,0,none⟩) l.length l.length (rc (qTo l f f))):=by rw[hg];exact Rd.of_own hown
 rw[<-hg]at hfz ⊢;have hgw:w.heap.size<=g:=by omega
 have HF:=hid hfz;have HB:=hid hb1;clear hfz hb1 hown hg1 hz0 hz1 hz2 hi hg;go_wp2
 go_loopw [6,7] (fun q i wr=>∃(k:Nat),f<=k/\k<=l.length/\q=.int .i32 (qSt l f (k-f))/\i=.int .i64 k/\Hid (Rd wr (fun b=>w.heap.size<=b) 1 (some ⟨g,0,none⟩) l.length l.length (rc (qTo l f k)))/\Hid (∀j,j<l.length->wr.frozen? ⟨g,0+j,none⟩=false)/\Hid (Below w.heap.size w wr))
  (fun _ i _=>l.length-(Go.RowKit.intOf i).toNat)
 case atStart=>exact⟨f,Nat.le_refl _,hf,by rw[Nat.sub_self];rfl,rfl,HO.out,HF.out,HB.out⟩
 case round =>
  obtain⟨k,hk0,hk,rfl,rfl,HK,HG,HW⟩:=hrel;by_cases hlt:k<l.length
  ·obtain⟨b,u,rfl,hc1⟩:=(HR.out.below HW.out).rune hlt
   obtain⟨b2,o2,hA,hS,hcell⟩:=HK.out.at_ (by omega)
   injection hA with hA
   injection hA with e1 e2
   subst e1 e2;have hc2:wr.cell? ⟨g,0+k,none⟩=some (.int .i32 0):=hcell k _ (by rw[rc,List.getElem?_map,QgC l f k hlt];rfl)
   have hfk:=HG.out k hlt;rw[Nat.zero_add]at hc2 hfk;have hke:f+(k-f)=k:=by omega
   have HQ:Hid (qSt l f (k+1-f)=(Q2Q (qSt l f (k-f)) l[k]).1):=by
    rw[Hid,show k+1-f=(k-f)+1 by omega,qSt,hke,List.getElem?_eq_getElem hlt];rfl
   have HO2:Hid (QbG l f (k-f)=(Q2Q (qSt l f (k-f)) l[k]).2):=by
    rw[Hid,QbG,hke,List.getElem?_eq_getElem hlt];rfl
   have HST:=hid (QeO l f k hk0 hlt);have HSM:=hid (Ql0 l f k hk0 hlt);clear hcell hke HO HF HB;generalize qSt l f (k-f)=q at HQ HO2 ⊢;generalize l[k]=r at hc1 HQ HO2;by_cases hq0:q=0
   ·subst hq0
    by_cases h34:r=34
    ·have HQ2:Hid (qSt l f (k+1-f)=r):=by rw[Hid,HQ.out,Q2Q,if_pos ⟨rfl,.inl h34⟩]
     have HS2:=hid (HSM.out (by rw[HO2.out,Q2Q,if_pos ⟨rfl,.inl h34⟩]))
     clear HQ HO2 HST HSM;subst h34;go_wp2
     go_roundw
     case rel=>exact⟨k+1,by omega,by omega,by rw[HQ2.out],by go_num,by rw[HS2.out];exact HK.out,HG.out,HW.out⟩
     case measure=>simp[Go.RowKit.intOf];omega
    ·by_cases h39:r=39
     ·have HQ2:Hid (qSt l f (k+1-f)=r):=by rw[Hid,HQ.out,Q2Q,if_pos ⟨rfl,.inr h39⟩]
      have HS2:=hid (HSM.out (by rw[HO2.out,Q2Q,if_pos ⟨rfl,.inr h39⟩]))
      clear HQ HO2 HST HSM h34;subst h39;go_wp2
      go_roundw
      case rel=>exact⟨k+1,by omega,by omega,by rw[HQ2.out],by go_num,by rw[HS2.out];exact HK.out,HG.out,HW.out⟩
      case measure=>simp[Go.RowKit.intOf];omega
     ·have hn:¬((0:Int)=0/\(r=34\/r=39)):=fun h=>h.2.elim h34 h39
      have HQ2:Hid (qSt l f (k+1-f)=0):=by rw[Hid,HQ.out,Q2Q,if_neg hn,if_neg (fun h=>h.1 rfl)]
      have HS2:Hid (qTo l f (k+1)=(qTo l f k).set k 0):=by rw[Hid,HST.out,HO2.out,Q2Q,if_neg hn,if_neg (fun h=>h.1 rfl)]
      have h34b:(r == 34)=false:=by simpa using h34
      have h39b:(r == 39)=false:=by simpa using h39
      clear HQ HO2 HST HSM hn h34 h39;go_wp2
      go_roundw
      case rel =>
       refine⟨k+1,by omega,by omega,by rw[HQ2.out],by go_num,?_,fun j hj=>?_,HW.out.setCell hgw _⟩
       ·rw[HS2.out,<-Qli]
        have h9:=HK.out.setB hlt (.int .i32 0);rw[Nat.zero_add]at h9;exact h9
       ·rw[World.frozen?_setCell];exact HG.out j hj
      case measure=>simp[Go.RowKit.intOf];omega
   ·have hq0b:(q == 0)=false:=by simpa using hq0
    by_cases hrq:r=q
    ·have hn:¬(q=0/\(r=34\/r=39)):=fun h=>hq0 h.1
     have HQ2:Hid (qSt l f (k+1-f)=0):=by rw[Hid,HQ.out,Q2Q,if_neg hn,if_pos ⟨hq0,hrq⟩]
     have HS2:=hid (HSM.out (by rw[HO2.out,Q2Q,if_neg hn,if_pos ⟨hq0,hrq⟩]))
     clear HQ HO2 HST HSM hn;subst hrq;go_wp2
     go_roundw
     case rel=>exact⟨k+1,by omega,by omega,by rw[HQ2.out],by go_num,by rw[HS2.out];exact HK.out,HG.out,HW.out⟩
     case measure=>simp[Go.RowKit.intOf];omega
    ·have hn:¬(q=0/\(r=34\/r=39)):=fun h=>hq0 h.1
     have HQ2:Hid (qSt l f (k+1-f)=q):=by rw[Hid,HQ.out,Q2Q,if_neg hn,if_neg (fun h=>hrq h.2)]
     have HS2:Hid (qTo l f (k+1)=(qTo l f k).set k q):=by rw[Hid,HST.out,HO2.out,Q2Q,if_neg hn,if_neg (fun h=>hrq h.2)]
     have hrqb:(r == q)=false:=by simpa using hrq
     clear HQ HO2 HST HSM hn hrq;go_wp2
     go_roundw
     case rel =>
      refine⟨k+1,by omega,by omega,by rw[HQ2.out],by go_num,?_,fun j hj=>?_,HW.out.setCell hgw _⟩
      ·rw[HS2.out,<-Qli]
       have h9:=HK.out.setB hlt (.int .i32 q);rw[Nat.zero_add]at h9;exact h9
      ·rw[World.frozen?_setCell];exact HG.out j hj
     case measure=>simp[Go.RowKit.intOf];omega
  ·have e:k=l.length:=by omega
   subst e;go_wp2
   go_ret
   exact⟨g,rfl,HK.out,HW.out⟩
