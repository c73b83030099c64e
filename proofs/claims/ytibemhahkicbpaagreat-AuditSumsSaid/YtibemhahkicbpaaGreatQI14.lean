/-
  Parts of the proof, joined: Sx Tk Us Ut Uw. Conditions: as each theorem says.
-/
import Derived.Test.YtibemhahkicbpaaGreatQI09
import Derived.Test.YtibemhahkicbpaaGreatQI05
import Derived.Test.YtibemhahkicbpaaGreatQI01
import Derived.Test.YtibemhahkicbpaaGreatQI12
set_option maxRecDepth 100000
set_option maxHeartbeats 8000000
namespace Go.Proofs.YtibemhahkicbpaaGreat
open Go.RowKit Go.Lib Tryz
section
variable {w:World} {g:Gh} {v:Value}
theorem Q4R {l:List Int}(h:ARel1 w g [] v (.slc 1 (Q1 l)))(M:Mem w g []):∃ A c,v=.slice A l.length c∧Rd w (fun _=>True) 1 A l.length c (rc l):=by
 obtain⟨A,c,ys,h1,h2,h3⟩:=QjA h M
 have e:Q1 l=(rc l).map .val:=by simp[Q1,rc,Qhe]
 rw[e,Qcq] at h3
 obtain rfl:=Q9O h3
 rw[Q13] at h1 h2
 exact⟨A,c,h1,h2⟩
theorem QhJ {l:List UInt8}(h:ARel1 w g [] v (.slc 1 (Q5 l)))(M:Mem w g []):∃ A c,v=.slice A l.length c∧Rd w (fun _=>True) 1 A l.length c (bc l):=by
 obtain⟨A,c,ys,h1,h2,h3⟩:=QjA h M
 have e:Q5 l=(bc l).map .val:=by simp[Q5,bc,Q4z]
 rw[e,Qcq] at h3
 obtain rfl:=Q9O h3
 rw[Q1A] at h1 h2
 exact⟨A,c,h1,h2⟩
end
theorem Qlk (l:List Int)(from_:Int)(p:Int→Bool)(f:Nat)(ef:∀ args w,(callFunc f args).run prog w=.ok (.enter f args) w)(hp:∀ w,Q69 prog f #[] p w) :
  BCall prog 176 [.slc 1 (Q1 l),.val (.int .i64 from_),.val (.func (.func f) #[] #[])] [] (.val (.int .i64 (Q4I p l from_))) []:=by
 refine BCall.hand (enters_of func176 (by kernel_rfl) rfl) fun w g vs M hL=>?_
 obtain⟨v1,vs1,rfl,h1,hL⟩:=Q1r hL
 obtain⟨v2,vs2,rfl,h2,hL⟩:=Q1r hL
 obtain⟨v3,vs3,rfl,h3,hL⟩:=Q1r hL
 obtain rfl:=Q4o hL
 obtain⟨A,c,rfl,hr⟩:=Q4R h1 M
 obtain rfl:=Q64 h2
 obtain rfl:=Q64 h3
 exact (Q6t _ A _ c l from_ f #[] p w ef hr (hp w)).mono fun e w' ⟨h,hb⟩=>⟨_,h,hb,PRel.val _ rfl⟩
theorem QjW (l:List Int)(k:Int)(h0:0≤k)(hk:k≤1000000000):BCall prog 183 [.slc 1 (Q1 l),.val (.int .i64 k)] [] (.val (.int .i64 (Q10 l k.toNat))) []:=by
 refine BCall.hand (enters_of func183 (by kernel_rfl) rfl) fun w g vs M hL=>?_
 obtain⟨v1,vs1,rfl,h1,hL⟩:=Q1r hL
 obtain⟨v2,vs2,rfl,h2,hL⟩:=Q1r hL
 obtain rfl:=Q4o hL
 obtain⟨A,c,rfl,hr⟩:=Q4R h1 M
 obtain rfl:=Q64 h2
 have:=Q5z _ A _ c l k.toNat w hr (by omega)
 rw[Int.toNat_of_nonneg h0] at this
 exact this.mono fun e w' ⟨h,hb⟩=>⟨_,h,hb,PRel.val _ rfl⟩
theorem Qht (l:List Int)(hl:l.length≤1000000000)(k:Int)(h0:0≤k)(hk:k≤l.length)(s:ByteArray)(hs:s.size≤1000000000):BCall prog 185 [.slc 1 (Q1 l),.val (.int .i64 k),.val (.string s)] [] (.val (.bool (Qk l k.toNat s.data.toList))) []:=by
 refine BCall.hand (enters_of func185 (by kernel_rfl) rfl) fun w g vs M hL=>?_
 obtain⟨v1,vs1,rfl,h1,hL⟩:=Q1r hL
 obtain⟨v2,vs2,rfl,h2,hL⟩:=Q1r hL
 obtain⟨v3,vs3,rfl,h3,hL⟩:=Q1r hL
 obtain rfl:=Q4o hL
 obtain⟨A,c,rfl,hr⟩:=Q4R h1 M
 obtain rfl:=Q64 h2
 obtain rfl:=Q64 h3
 have:=Q1p _ A _ c l k.toNat s w hr (by omega) hl hs
 rw[Int.toNat_of_nonneg h0] at this
 exact this.mono fun e w' ⟨h,hb⟩=>⟨_,h,hb,PRel.val _ rfl⟩
structure Tok where
 kind:Int
 from_:Int
 to:Int
 whole:Bool
 deriving Inhabited
def Tok.av (t:Tok):AV:=.agg [.val (.int .i64 t.kind),.val (.int .i64 t.from_),.val (.int .i64 t.to),.val (.bool t.whole)]
def QK (l:List Int)(k:Nat):Tok:=⟨(Qv l k).1,k,(Qv l k).2.1,(Qv l k).2.2⟩
theorem QjM (l:List Int)(hl:l.length≤1000000000)(k:Int)(h0:0≤k)(hk:k<l.length):BCall prog 133 [.slc 1 (Q1 l),.val (.int .i64 k)] [] (.tup [(QK l k.toNat).av,.val (.bool true)]) []:=by
 refine BCall.hand (enters_of func133 (by kernel_rfl) rfl) fun w g vs M hL=>?_
 obtain⟨v1,vs1,rfl,h1,hL⟩:=Q1r hL
 obtain⟨v2,vs2,rfl,h2,hL⟩:=Q1r hL
 obtain rfl:=Q4o hL
 obtain⟨A,c,rfl,hr⟩:=Q4R h1 M
 obtain rfl:=Q64 h2
 have:=QeI _ A _ c l k.toNat w hr (by omega) hl
 rw[Int.toNat_of_nonneg h0] at this
 refine this.mono fun e w' ⟨h,hb⟩=>⟨_,h,hb,_,rfl,rfl,fun j y u hy hu=>?_⟩
 match j,hy,hu with
 |0,hy,hu =>
  obtain rfl:Q1q (Qv l k.toNat) k.toNat=y:=by simpa using hy
  obtain rfl:(QK l k.toNat).av=u:=by simpa using hu
  refine⟨_,rfl,rfl,fun i y u hy hu=>?_⟩
  match i,hy,hu with
  |0,hy,hu=>cases hy;cases hu;exact⟨PRel.val _ rfl,rfl⟩
  |1,hy,hu=>cases hy;cases hu;exact⟨PRel.val _ rfl,rfl⟩
  |2,hy,hu=>cases hy;cases hu;exact⟨PRel.val _ rfl,rfl⟩
  |3,hy,hu=>cases hy;cases hu;exact⟨PRel.val _ rfl,rfl⟩
  |i+4,hy,hu=>simp at hy
 |1,hy,hu =>
  obtain rfl:Value.bool true=y:=by simpa using hy
  obtain rfl:AV.val (.bool true)=u:=by simpa using hu
  exact PRel.val _ rfl
 |j+2,hy,hu=>simp at hy
theorem QeJ (l:List Int)(k:Int)(h0:0≤k)(hk:(l.length:Int)≤k):BCall prog 133 [.slc 1 (Q1 l),.val (.int .i64 k)] [] (.tup [.agg [.val (.int .i64 0),.val (.int .i64 0),.val (.int .i64 0),.val (.bool false)],.val (.bool false)]) []:=by
 obtain⟨n,hn⟩:=QX l
 have hk':n≤k:=by rw[hn.eq];exact hk
 refine fnN (cs:=cs0) func133 rfl (by kernel_rfl) ?_
 intro w0 g0
 generalize hp:std=p,hrs:Q1 l=rs
 generalize hT:Q8 p tys (cs0) _ _ _ _=T
 cbv at hT
 subst hT
 simp only[Tree.ok,Q4,S0]
 subst hp hrs
 have en:=hn.eq
 have hrl:=Q13 l
 repeat' first
  |(with_reducible refine And.intro (fun hx=>absurd hx (by first|(try simp[std,S1,hrl,h0])<;>omega|omega)) (fun _=>?_))
  |(with_reducible refine And.intro (fun _=>?_) (fun hx=>absurd hx (by first|(try simp[std,S1,hrl,h0])<;>omega|omega)))
  |(with_reducible refine And.intro (by first|(try simp[std,S1,hrl,h0])<;>omega|omega) ?_)
  |(with_reducible refine And.intro ?_ ?_)
  |(with_reducible intro hb)
 exact .pure rfl ⟨⟨.inl rfl,.inl rfl,.inl rfl,.inl rfl,trivial⟩,.inl rfl,trivial⟩
end Go.Proofs.YtibemhahkicbpaaGreat
namespace Go.Proofs.YtibemhahkicbpaaGreat
open Go.RowKit Go.Lib Tryz
def QO (l:List Tok):List AV:=l.map Tok.av
theorem Q8m (l:List Tok):(QO l).length=l.length:=by simp[QO]
theorem Qgh (a b:List Tok):QO (a++b)=QO a++QO b:=by simp[QO]
theorem QgC (t:Tok):QO [t]=[.agg [.val (.int .i64 t.kind),.val (.int .i64 t.from_),.val (.int .i64 t.to),.val (.bool t.whole)]]:=rfl
def QkP (t:(Nat×Nat×Bool)×Nat):Tok:=⟨t.1.1,t.2,t.1.2.1,t.1.2.2⟩
def Q1o (l:List Int)(k:Nat):List Tok:=(Q3a l k).map QkP
def Q14 (l:List Int):List Tok:=Q1o l 0
theorem Q1j {l:List Int}{k:Nat}(h:k<l.length):Q1o l k=QK l k::Q1o l (Qv l k).2.1:=by
 rw[Q1o,Q5G l k h];rfl
theorem QU {l:List Int}{k:Nat}(h:¬ k<l.length):Q1o l k=[]:=by rw[Q1o,Q4k l k h];rfl
def Q3l (l:List Int)(k:Int):Tok:=if 0≤k∧k<l.length then QK l k.toNat else ⟨0,0,0,false⟩
def Q7b (l:List Int)(k:Int):Bool:=decide (0≤k∧k<l.length)
theorem QgZ (l:List Int)(hl:l.length≤1000000000)(k:Int)(h0:0≤k):BCall prog 133 [.slc 1 (Q1 l),.val (.int .i64 k)] [] (.tup [.agg [.val (.int .i64 (Q3l l k).kind),.val (.int .i64 (Q3l l k).from_),.val (.int .i64 (Q3l l k).to),.val (.bool (Q3l l k).whole)],.val (.bool (Q7b l k))]) []:=by
 by_cases h:k<l.length
 ·rw[Q3l,if_pos ⟨h0,h⟩,Q7b,decide_eq_true ⟨h0,h⟩]
  exact QjM l hl k h0 h
 ·have:¬ (0≤k∧k<l.length):=fun x=>h x.2
  rw[Q3l,if_neg this,Q7b,decide_eq_false this]
  exact QeJ l k h0 (by omega)
def csN (kd fr to:Int→Int)(wh ok:Int→Bool):Nat→List AV→List Ob→Option (AV×List Ob):=fun f args _=>match f,args with
 |133,[.slc 1 _,.val (.int .i64 k)]=>some (.tup [.agg [.val (.int .i64 (kd k)),.val (.int .i64 (fr k)),.val (.int .i64 (to k)),.val (.bool (wh k))],.val (.bool (ok k))],[])
 |_,_=>none
theorem Q8A (l:List Int)(hl:l.length≤1000000):BCall prog 87 [.slc 1 (Q1 l)] [] (.slc 4 (QO (Q14 l))) []:=by
 have hNx:=fun k h0=>QgZ l (by omega) k h0
 obtain⟨kd,hkd⟩:=exq (fun k=>(Q3l l k).kind:Int→Int)
 obtain⟨fr,hfr⟩:=exq (fun k=>(Q3l l k).from_:Int→Int)
 obtain⟨to,hto⟩:=exq (fun k=>(Q3l l k).to:Int→Int)
 obtain⟨wh,hwh⟩:=exq (fun k=>(Q3l l k).whole:Int→Bool)
 obtain⟨ok,hok⟩:=exq (Q7b l:Int→Bool)
 have hNx:∀ k,0≤k→BCall prog 133 [.slc 1 (Q1 l),.val (.int .i64 k)] [] (.tup [.agg [.val (.int .i64 (kd k)),.val (.int .i64 (fr k)),.val (.int .i64 (to k)),.val (.bool (wh k))],.val (.bool (ok k))]) []:=fun k h0=>by rw[hkd,hfr,hto,hwh,hok];exact hNx k h0
 obtain⟨n,hn⟩:=QX l
 have hstep:∀ k:Int,0≤k→k<n→to k=((Qv l k.toNat).2.1:Nat)∧k<to k∧to k≤n∧QK l k.toNat=⟨kd k,fr k,to k,wh k⟩∧ok k=true:=fun k h0 h1=>by
  have e:=hn.eq
  have h2:Q3l l k=QK l k.toNat:=by rw[Q3l,if_pos ⟨h0,by omega⟩]
  have h3:=Q1V l k.toNat (by omega)
  have h4:to k=((Qv l k.toNat).2.1:Nat):=by rw[hto];simp only[h2];rfl
  refine⟨h4,by omega,by omega,?_,?_⟩
  ·rw[hkd,hfr,hto,hwh];simp only[h2]
  ·rw[hok];simp[Q7b];omega
 have hend:∀ k:Int,0≤k→¬ k<n→ok k=false:=fun k h0 h1=>by
  have e:=hn.eq
  rw[hok];simp[Q7b];omega
 clear hkd hfr hto hwh hok
 refine fnN (cs:=csN kd fr to wh ok) func87 rfl (by kernel_rfl) ?_
 intro w0 g0
 generalize hp:std=p,hrs:Q1 l=rs
 generalize hT:Q8 p tys (csN kd fr to wh ok) _ _ _ _=T
 cbv at hT
 subst hT
 simp only[Tree.ok,Q4,S0]
 subst hp hrs
 refine⟨hNx 0 (by omega),?_⟩
 refine Q1P (cs:=csN kd fr to wh ok) (by kernel_rfl) (X:=List Tok×Int) (fun x=>⟨[(0,.slc 1 (Q1 l)),(3,.row 0 0),(4,.box 1 0),(5,.val (.bool (ok x.2)))],[.row 185 4 false 0 (QO x.1),.box [.val (.int .i64 (kd x.2)),.val (.int .i64 (fr x.2)),.val (.int .i64 (to x.2)),.val (.bool (wh x.2))]]⟩) (fun x=>0≤x.2∧x.2≤n∧x.1++Q1o l x.2.toNat=Q14 l∧(x.1.length:Int)≤x.2) (fun x=>(n-x.2).toNat) ([],0) ?_ ?_ ?_
 ·have:=hn.eq
  exact⟨by omega,by simp only;omega,rfl,by simp⟩
 ·exact⟨[none,some 0],_,rfl,by simp[Qh,lk,QO]⟩
 ·rintro⟨out,k⟩ ⟨hJ0,hJ1,hJ2,hJ3⟩
  simp only at hJ0 hJ1 hJ2 hJ3
  have hol:=Q8m out
  have en:=hn.eq
  have hbd:out.length≤1000000:=by omega
  obtain⟨q,hq⟩:=QX out
  have hJ4:q≤k:=by rw[hq.eq];exact hJ3
  clear en
  by_cases hk:k<n
  ·obtain⟨s1,s2,s3,s4,s5⟩:=hstep k hJ0 hk
   have s6:=hNx (to k) (by omega)
   have en:=hn.eq
   have hG:out++[⟨kd k,fr k,to k,wh k⟩]++Q1o l (to k).toNat=Q14 l:=by
    rw[←hJ2,Q1j (k:=k.toNat) (by omega),s4,s1,Int.toNat_natCast];simp
   clear s1 en
   generalize hp:std=p,hrs:Q1 l=rs,ho:QO out=o
   generalize hT:Q8 p tys (csN kd fr to wh ok) _ _ _ _=T
   cbv at hT
   subst hT
   simp only[Tree.ok,Q4,S0]
   subst hp hrs ho
   have eq:=hq.eq
   repeat' first
    |(with_reducible refine And.intro (fun hx=>absurd hx (by first|(try simp[std,S1,hol,s5,s6])<;>omega|omega)) (fun _=>?_))
    |(with_reducible refine And.intro (fun _=>?_) (fun hx=>absurd hx (by first|(try simp[std,S1,hol,s5,s6])<;>omega|omega)))
    |(with_reducible refine And.intro (by first|(try simp[std,S1,hol,s5,s6])<;>omega|omega) ?_)
    |(with_reducible refine And.intro ?_ ?_)
    |(with_reducible intro hb)
   exact⟨(out++[⟨kd k,fr k,to k,wh k⟩],to k),⟨by simp only;omega,s3,hG,by show ((out++[_]).length:Int)≤to k;simp only[List.length_append,List.length_singleton];omega⟩,by simp only;omega,[some 0,some 3],_,rfl,by simp[Qh,lk,std,Qgh,QgC]⟩
  ·have s5:=hend k hJ0 hk
   have en:=hn.eq
   have hG:out=Q14 l:=by rw[←hJ2,QU (by omega),List.append_nil]
   clear en
   generalize hp:std=p,hrs:Q1 l=rs,ho:QO out=o
   generalize hT:Q8 p tys (csN kd fr to wh ok) _ _ _ _=T
   cbv at hT
   subst hT
   simp only[Tree.ok,Q4,S0]
   subst hp hrs ho
   repeat' first
    |(with_reducible refine And.intro (fun hx=>absurd hx (by first|(try simp[std,S1,s5])<;>omega|omega)) (fun _=>?_))
    |(with_reducible refine And.intro (fun _=>?_) (fun hx=>absurd hx (by first|(try simp[std,S1,s5])<;>omega|omega)))
    |(with_reducible refine And.intro (by first|(try simp[std,S1,s5])<;>omega|omega) ?_)
    |(with_reducible refine And.intro ?_ ?_)
    |(with_reducible intro hb)
   rw[if_pos trivial]
   generalize hp:std=p,hrs:Q1 l=rs,ho:QO out=o
   generalize hT:Q8 p tys (csN kd fr to wh ok) _ _ _ _=T
   cbv at hT
   subst hT
   simp only[Tree.ok,Q4,S0]
   subst hp hrs ho
   exact .pure rfl (.inl (by rw[hG]))
end Go.Proofs.YtibemhahkicbpaaGreat
namespace Go.Proofs.YtibemhahkicbpaaGreat
open Go.RowKit Go.Lib
structure Rp where
 a0:Int
 a1:Int
 a2:Int
 a3:Int
 a4:Int
 a5:Int
 a6:Int
 a7:Int
 t0:Int
 t1:Int
 t2:Int
 t3:Int
 t4:Int
 t5:Int
 t6:Int
 t7:Int
 t8:Int
 t9:Int
 t10:Int
 t11:Int
 w0:Int
 w1:Int
 w2:Int
 w3:Int
 w4:Int
 w5:Int
def Rp.hd (r:Rp):List Int:=[r.a0,r.a1,r.a2,r.a3,r.a4,r.a5,r.a6,r.a7]
def Rp.wr (r:Rp):List Int:=[r.w1,r.w2,r.w3,r.w4,r.w5]
def Rp.all (r:Rp):List Int:=[r.a0,r.a1,r.a2,r.a3,r.a4,r.a5,r.a6,r.a7,r.t0,r.t1,r.t2,r.t3,r.t4,r.t5,r.t6,r.t7,r.t8,r.t9,r.t10,r.t11,r.w0,r.w1,r.w2,r.w3,r.w4,r.w5]
def Rp.cs (r:Rp):List AV:=[.val (.int .i64 r.a0),.val (.int .i64 r.a1),.val (.int .i64 r.a2),.val (.int .i64 r.a3),.val (.int .i64 r.a4),.val (.int .i64 r.a5),.val (.int .i64 r.a6),.val (.int .i64 r.a7),.val (.int .i64 r.t0),.val (.int .i64 r.t1),.val (.int .i64 r.t2),.val (.int .i64 r.t3),.val (.int .i64 r.t4),.val (.int .i64 r.t5),.val (.int .i64 r.t6),.val (.int .i64 r.t7),.val (.int .i64 r.t8),.val (.int .i64 r.t9),.val (.int .i64 r.t10),.val (.int .i64 r.t11),.val (.int .i64 r.w0),.val (.int .i64 r.w1),.val (.int .i64 r.w2),.val (.int .i64 r.w3),.val (.int .i64 r.w4),.val (.int .i64 r.w5)]
def Rp.ok (r:Rp):Prop:=∀ x∈r.all,-9223372036854775808≤x∧x≤9223372036854775807
def SbL (lo b:Nat)(xs:List UInt8)(w:World):Prop :=
 b<lo∧∃ p v,(p=.pointer none∨p=.pointer (some ⟨b,0,none⟩))∧w.heap[b]?=some (.cells #[p,v] 162 (0,0))∧w.ownsRow lo 5 1 v xs.length (bc xs)
structure Bx (lo b:Nat) (w w':World):Prop where
 os:w'.os=w.os
 tape:w'.tape=w.tape
 output:w'.output=w.output
 size:w.heap.size≤w'.heap.size
 keep:∀ k,k<lo→k≠b→w'.heap[k]?=w.heap[k]?
theorem Bx.refl (lo b:Nat)(w:World):Bx lo b w w:=⟨rfl,rfl,rfl,Nat.le_refl _,fun _ _ _=>rfl⟩
theorem Bx.trans {lo b:Nat}{u v w:World}(h:Bx lo b u v)(k:Bx lo b v w):Bx lo b u w :=
 ⟨k.os.trans h.os,k.tape.trans h.tape,k.output.trans h.output,Nat.le_trans h.size k.size,fun i h1 h2=>(k.keep i h1 h2).trans (h.keep i h1 h2)⟩
theorem Bx.of {lo b:Nat}{u w:World}(h:Below u.heap.size u w)(hl:lo≤u.heap.size):Bx lo b u w:=⟨h.os,h.tape,h.output,h.size,fun k hk _=>h.block k (by omega)⟩
theorem Bx.cell {lo b:Nat}{u w:World}(h:Bx lo b u w){k j:Nat}(hk:k<lo)(hb:k≠b):w.cell? ⟨k,j,none⟩=u.cell? ⟨k,j,none⟩:=World.cell?_of_block (h.keep k hk hb)
theorem Qld:(162:Nat)≠5:=by decide
theorem SbL.ne {lo b:Nat}{w:World}{p v:Value}{n:Nat}{xs:List Value}(hb:w.heap[b]?=some (.cells #[p,v] 162 (0,0)))(ho:w.ownsRow lo 5 1 v n xs):v.ownBlock≠some b:=Lib.ownBlock_ne ho hb Qld
theorem SbL.below {lo b:Nat}{xs:List UInt8}{w w':World}(h:SbL lo b xs w)(hb:Below w.heap.size w w'):SbL lo b xs w':=by
 obtain⟨h1,p,v,hp,hk,ho⟩:=h
 have hlt:b<w.heap.size:=by
  rcases Nat.lt_or_ge b w.heap.size with h'|h'
  ·exact h'
  ·simp[Array.getElem?_eq_none h'] at hk
 exact⟨h1,p,v,hp,by rw[hb.block b hlt];exact hk,Qad ho hb⟩
def Rp.vs (r:Rp):Array Value:=(r.all.map (Value.int .i64)).toArray
end Go.Proofs.YtibemhahkicbpaaGreat
