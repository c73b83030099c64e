/-
  Parts of the proof, joined: Sx Tk Us Ut Uw. Conditions: as each theorem says.
-/
import Derived.Test.YtibemhahkicbpaaGreatQH08
import Derived.Test.YtibemhahkicbpaaGreatQH04
import Derived.Test.YtibemhahkicbpaaGreatQH01
import Derived.Test.YtibemhahkicbpaaGreatQH11
import Derived.Test.YtibemhahkicbpaaGreatQH09
set_option maxRecDepth 100000
set_option maxHeartbeats 8000000
namespace Go.Proofs.YtibemhahkicbpaaGreat
open Go.RowKit Go.Lib Tryz
section
variable {w:World} {g:Gh} {v:Value}
theorem Q4C {l:List Int}(h:ARel1 w g [] v (.slc 1 (Q5 l)))(M:Mem w g []):∃ A c,v=.slice A l.length c∧Rd w (fun _=>True) 1 A l.length c (rc l):=by
 obtain⟨A,c,ys,h1,h2,h3⟩:=Qi9 h M
 have e:Q5 l=(rc l).map .val:=by simp[Q5,rc,QeA]
 rw[e,Qbl] at h3
 obtain rfl:=Q8Y h3
 rw[Q1i] at h1 h2
 exact⟨A,c,h1,h2⟩
theorem QfT {l:List UInt8}(h:ARel1 w g [] v (.slc 1 (Q3 l)))(M:Mem w g []):∃ A c,v=.slice A l.length c∧Rd w (fun _=>True) 1 A l.length c (bc l):=by
 obtain⟨A,c,ys,h1,h2,h3⟩:=Qi9 h M
 have e:Q3 l=(bc l).map .val:=by simp[Q3,bc,Q4k]
 rw[e,Qbl] at h3
 obtain rfl:=Q8Y h3
 rw[Q1j] at h1 h2
 exact⟨A,c,h1,h2⟩
end
theorem Qj6 (l:List Int)(from_:Int)(p:Int→Bool)(f:Nat)(ef:∀ args w,(callFunc f args).run prog w=.ok (.enter f args) w)(hp:∀ w,Q5j prog f #[] p w) :
  BCall prog 176 [.slc 1 (Q5 l),.val (.int .i64 from_),.val (.func (.func f) #[] #[])] [] (.val (.int .i64 (Q4z p l from_))) []:=by
 refine BCall.hand (enters_of func176 (by kernel_rfl) rfl) fun w g vs M hL=>?_
 obtain⟨v1,vs1,rfl,h1,hL⟩:=Q1e hL
 obtain⟨v2,vs2,rfl,h2,hL⟩:=Q1e hL
 obtain⟨v3,vs3,rfl,h3,hL⟩:=Q1e hL
 obtain rfl:=Q48 hL
 obtain⟨A,c,rfl,hr⟩:=Q4C h1 M
 obtain rfl:=Q6o h2
 obtain rfl:=Q6o h3
 exact (Q69 _ A _ c l from_ f #[] p w ef hr (hp w)).mono fun e w' ⟨h,hb⟩=>⟨_,h,hb,PRel.val _ rfl⟩
theorem QiS (l:List Int)(k:Int)(h0:0≤k)(hk:k≤1000000000):BCall prog 183 [.slc 1 (Q5 l),.val (.int .i64 k)] [] (.val (.int .i64 (Q14 l k.toNat))) []:=by
 refine BCall.hand (enters_of func183 (by kernel_rfl) rfl) fun w g vs M hL=>?_
 obtain⟨v1,vs1,rfl,h1,hL⟩:=Q1e hL
 obtain⟨v2,vs2,rfl,h2,hL⟩:=Q1e hL
 obtain rfl:=Q48 hL
 obtain⟨A,c,rfl,hr⟩:=Q4C h1 M
 obtain rfl:=Q6o h2
 have:=Q6w _ A _ c l k.toNat w hr (by omega)
 rw[Int.toNat_of_nonneg h0] at this
 exact this.mono fun e w' ⟨h,hb⟩=>⟨_,h,hb,PRel.val _ rfl⟩
theorem QeQ (l:List Int)(hl:l.length≤1000000000)(k:Int)(h0:0≤k)(hk:k≤l.length)(s:ByteArray)(hs:s.size≤1000000000):BCall prog 185 [.slc 1 (Q5 l),.val (.int .i64 k),.val (.string s)] [] (.val (.bool (Qf l k.toNat s.data.toList))) []:=by
 refine BCall.hand (enters_of func185 (by kernel_rfl) rfl) fun w g vs M hL=>?_
 obtain⟨v1,vs1,rfl,h1,hL⟩:=Q1e hL
 obtain⟨v2,vs2,rfl,h2,hL⟩:=Q1e hL
 obtain⟨v3,vs3,rfl,h3,hL⟩:=Q1e hL
 obtain rfl:=Q48 hL
 obtain⟨A,c,rfl,hr⟩:=Q4C h1 M
 obtain rfl:=Q6o h2
 obtain rfl:=Q6o h3
 have:=Q1d _ A _ c l k.toNat s w hr (by omega) hl hs
 rw[Int.toNat_of_nonneg h0] at this
 exact this.mono fun e w' ⟨h,hb⟩=>⟨_,h,hb,PRel.val _ rfl⟩
structure Tok where
 kind:Int
 from_:Int
 to:Int
 whole:Bool
 deriving Inhabited
def Tok.av (t:Tok):AV:=.agg [.val (.int .i64 t.kind),.val (.int .i64 t.from_),.val (.int .i64 t.to),.val (.bool t.whole)]
def QI (l:List Int)(k:Nat):Tok:=⟨(QA l k).1,k,(QA l k).2.1,(QA l k).2.2⟩
theorem QiY (l:List Int)(hl:l.length≤1000000000)(k:Int)(h0:0≤k)(hk:k<l.length):BCall prog 133 [.slc 1 (Q5 l),.val (.int .i64 k)] [] (.tup [(QI l k.toNat).av,.val (.bool true)]) []:=by
 refine BCall.hand (enters_of func133 (by kernel_rfl) rfl) fun w g vs M hL=>?_
 obtain⟨v1,vs1,rfl,h1,hL⟩:=Q1e hL
 obtain⟨v2,vs2,rfl,h2,hL⟩:=Q1e hL
 obtain rfl:=Q48 hL
 obtain⟨A,c,rfl,hr⟩:=Q4C h1 M
 obtain rfl:=Q6o h2
 have:=Qe2 _ A _ c l k.toNat w hr (by omega) hl
 rw[Int.toNat_of_nonneg h0] at this
 refine this.mono fun e w' ⟨h,hb⟩=>⟨_,h,hb,_,rfl,rfl,fun j y u hy hu=>?_⟩
 match j,hy,hu with
 |0,hy,hu =>
  obtain rfl:Q1c (QA l k.toNat) k.toNat=y:=by simpa using hy
  obtain rfl:(QI l k.toNat).av=u:=by simpa using hu
  refine⟨_,rfl,rfl,fun i y u hy hu=>?_⟩
  match i,hy,hu with
  |0,hy,hu=>cases hy;cases hu;exact⟨PRel.val _ rfl,rfl⟩
  |1,hy,hu=>cases hy;cases hu;exact⟨PRel.val _ rfl,rfl⟩
  |2,hy,hu=>cases hy;cases hu;exact⟨PRel.val _ rfl,rfl⟩
  |3,hy,hu=>cases hy;cases hu;exact⟨PRel.val _ rfl,rfl⟩
  |i+4,hy,hu=>simp at hy
 |1,hy,hu =>
  obtain rfl:Value.bool true=y:=by simpa using hy
  obtain rfl:AV.val (.bool true)=u:=by simpa using hu
  exact PRel.val _ rfl
 |j+2,hy,hu=>simp at hy
theorem QdV (l:List Int)(k:Int)(h0:0≤k)(hk:(l.length:Int)≤k):BCall prog 133 [.slc 1 (Q5 l),.val (.int .i64 k)] [] (.tup [.agg [.val (.int .i64 0),.val (.int .i64 0),.val (.int .i64 0),.val (.bool false)],.val (.bool false)]) []:=by
 obtain⟨n,hn⟩:=QS l
 have hk':n≤k:=by rw[hn.eq];exact hk
 refine fnN (cs:=cs0) func133 rfl (by kernel_rfl) ?_
 intro w0 g0
 generalize hp:std=p,hrs:Q5 l=rs
 generalize hT:Q8 p tys (cs0) _ _ _ _=T
 cbv at hT
 subst hT
 simp only[Tree.ok,Q4,S0]
 subst hp hrs
 have en:=hn.eq
 have hrl:=Q1i l
 repeat' first
  |(with_reducible refine And.intro (fun hx=>absurd hx (by first|(try simp[std,S1,hrl,h0])<;>omega|omega)) (fun _=>?_))
  |(with_reducible refine And.intro (fun _=>?_) (fun hx=>absurd hx (by first|(try simp[std,S1,hrl,h0])<;>omega|omega)))
  |(with_reducible refine And.intro (by first|(try simp[std,S1,hrl,h0])<;>omega|omega) ?_)
  |(with_reducible refine And.intro ?_ ?_)
  |(with_reducible intro hb)
 exact .pure rfl ⟨⟨.inl rfl,.inl rfl,.inl rfl,.inl rfl,trivial⟩,.inl rfl,trivial⟩
end Go.Proofs.YtibemhahkicbpaaGreat
namespace Go.Proofs.YtibemhahkicbpaaGreat
open Go.RowKit Go.Lib Tryz
def QL (l:List Tok):List AV:=l.map Tok.av
theorem Q7U (l:List Tok):(QL l).length=l.length:=by simp[QL]
theorem QfG (a b:List Tok):QL (a++b)=QL a++QL b:=by simp[QL]
theorem Qge (t:Tok):QL [t]=[.agg [.val (.int .i64 t.kind),.val (.int .i64 t.from_),.val (.int .i64 t.to),.val (.bool t.whole)]]:=rfl
def Qju (t:(Nat×Nat×Bool)×Nat):Tok:=⟨t.1.1,t.2,t.1.2.1,t.1.2.2⟩
def Q2q (l:List Int)(k:Nat):List Tok:=(Q2V l k).map Qju
def Q3M (l:List Int):List Tok:=Q2q l 0
theorem Q1X {l:List Int}{k:Nat}(h:k<l.length):Q2q l k=QI l k::Q2q l (QA l k).2.1:=by
 rw[Q2q,Q5e l k h];rfl
theorem Q1o {l:List Int}{k:Nat}(h:¬ k<l.length):Q2q l k=[]:=by rw[Q2q,Q46 l k h];rfl
def Q32 (l:List Int)(k:Int):Tok:=if 0≤k∧k<l.length then QI l k.toNat else ⟨0,0,0,false⟩
def Q6F (l:List Int)(k:Int):Bool:=decide (0≤k∧k<l.length)
theorem Qfz (l:List Int)(hl:l.length≤1000000000)(k:Int)(h0:0≤k):BCall prog 133 [.slc 1 (Q5 l),.val (.int .i64 k)] [] (.tup [.agg [.val (.int .i64 (Q32 l k).kind),.val (.int .i64 (Q32 l k).from_),.val (.int .i64 (Q32 l k).to),.val (.bool (Q32 l k).whole)],.val (.bool (Q6F l k))]) []:=by
 by_cases h:k<l.length
 ·rw[Q32,if_pos ⟨h0,h⟩,Q6F,decide_eq_true ⟨h0,h⟩]
  exact QiY l hl k h0 h
 ·have:¬ (0≤k∧k<l.length):=fun x=>h x.2
  rw[Q32,if_neg this,Q6F,decide_eq_false this]
  exact QdV l k h0 (by omega)
def csN (kd fr to:Int→Int)(wh ok:Int→Bool):Nat→List AV→List Ob→Option (AV×List Ob):=fun f args _=>match f,args with
 |133,[.slc 1 _,.val (.int .i64 k)]=>some (.tup [.agg [.val (.int .i64 (kd k)),.val (.int .i64 (fr k)),.val (.int .i64 (to k)),.val (.bool (wh k))],.val (.bool (ok k))],[])
 |_,_=>none
theorem Q7T (l:List Int)(hl:l.length≤1000000):BCall prog 87 [.slc 1 (Q5 l)] [] (.slc 4 (QL (Q3M l))) []:=by
 have hNx:=fun k h0=>Qfz l (by omega) k h0
 obtain⟨kd,hkd⟩:=exq (fun k=>(Q32 l k).kind:Int→Int)
 obtain⟨fr,hfr⟩:=exq (fun k=>(Q32 l k).from_:Int→Int)
 obtain⟨to,hto⟩:=exq (fun k=>(Q32 l k).to:Int→Int)
 obtain⟨wh,hwh⟩:=exq (fun k=>(Q32 l k).whole:Int→Bool)
 obtain⟨ok,hok⟩:=exq (Q6F l:Int→Bool)
 have hNx:∀ k,0≤k→BCall prog 133 [.slc 1 (Q5 l),.val (.int .i64 k)] [] (.tup [.agg [.val (.int .i64 (kd k)),.val (.int .i64 (fr k)),.val (.int .i64 (to k)),.val (.bool (wh k))],.val (.bool (ok k))]) []:=fun k h0=>by rw[hkd,hfr,hto,hwh,hok];exact hNx k h0
 obtain⟨n,hn⟩:=QS l
 have hstep:∀ k:Int,0≤k→k<n→to k=((QA l k.toNat).2.1:Nat)∧k<to k∧to k≤n∧QI l k.toNat=⟨kd k,fr k,to k,wh k⟩∧ok k=true:=fun k h0 h1=>by
  have e:=hn.eq
  have h2:Q32 l k=QI l k.toNat:=by rw[Q32,if_pos ⟨h0,by omega⟩]
  have h3:=Q2D l k.toNat (by omega)
  have h4:to k=((QA l k.toNat).2.1:Nat):=by rw[hto];simp only[h2];rfl
  refine⟨h4,by omega,by omega,?_,?_⟩
  ·rw[hkd,hfr,hto,hwh];simp only[h2]
  ·rw[hok];simp[Q6F];omega
 have hend:∀ k:Int,0≤k→¬ k<n→ok k=false:=fun k h0 h1=>by
  have e:=hn.eq
  rw[hok];simp[Q6F];omega
 clear hkd hfr hto hwh hok
 refine fnN (cs:=csN kd fr to wh ok) func87 rfl (by kernel_rfl) ?_
 intro w0 g0
 generalize hp:std=p,hrs:Q5 l=rs
 generalize hT:Q8 p tys (csN kd fr to wh ok) _ _ _ _=T
 cbv at hT
 subst hT
 simp only[Tree.ok,Q4,S0]
 subst hp hrs
 refine⟨hNx 0 (by omega),?_⟩
 refine Q1S (cs:=csN kd fr to wh ok) (by kernel_rfl) (X:=List Tok×Int) (fun x=>⟨[(0,.slc 1 (Q5 l)),(3,.row 0 0),(4,.box 1 0),(5,.val (.bool (ok x.2)))],[.row 185 4 false 0 (QL x.1),.box [.val (.int .i64 (kd x.2)),.val (.int .i64 (fr x.2)),.val (.int .i64 (to x.2)),.val (.bool (wh x.2))]]⟩) (fun x=>0≤x.2∧x.2≤n∧x.1++Q2q l x.2.toNat=Q3M l∧(x.1.length:Int)≤x.2) (fun x=>(n-x.2).toNat) ([],0) ?_ ?_ ?_
 ·have:=hn.eq
  exact⟨by omega,by simp only;omega,rfl,by simp⟩
 ·exact⟨[none,some 0],_,rfl,by simp[Qd,lk,QL]⟩
 ·rintro⟨out,k⟩ ⟨hJ0,hJ1,hJ2,hJ3⟩
  simp only at hJ0 hJ1 hJ2 hJ3
  have hol:=Q7U out
  have en:=hn.eq
  have hbd:out.length≤1000000:=by omega
  obtain⟨q,hq⟩:=QS out
  have hJ4:q≤k:=by rw[hq.eq];exact hJ3
  clear en
  by_cases hk:k<n
  ·obtain⟨s1,s2,s3,s4,s5⟩:=hstep k hJ0 hk
   have s6:=hNx (to k) (by omega)
   have en:=hn.eq
   have hG:out++[⟨kd k,fr k,to k,wh k⟩]++Q2q l (to k).toNat=Q3M l:=by
    rw[←hJ2,Q1X (k:=k.toNat) (by omega),s4,s1,Int.toNat_natCast];simp
   clear s1 en
   generalize hp:std=p,hrs:Q5 l=rs,ho:QL out=o
   generalize hT:Q8 p tys (csN kd fr to wh ok) _ _ _ _=T
   cbv at hT
   subst hT
   simp only[Tree.ok,Q4,S0]
   subst hp hrs ho
   have eq:=hq.eq
   repeat' first
    |(with_reducible refine And.intro (fun hx=>absurd hx (by first|(try simp[std,S1,hol,s5,s6])<;>omega|omega)) (fun _=>?_))
    |(with_reducible refine And.intro (fun _=>?_) (fun hx=>absurd hx (by first|(try simp[std,S1,hol,s5,s6])<;>omega|omega)))
    |(with_reducible refine And.intro (by first|(try simp[std,S1,hol,s5,s6])<;>omega|omega) ?_)
    |(with_reducible refine And.intro ?_ ?_)
    |(with_reducible intro hb)
   exact⟨(out++[⟨kd k,fr k,to k,wh k⟩],to k),⟨by simp only;omega,s3,hG,by show ((out++[_]).length:Int)≤to k;simp only[List.length_append,List.length_singleton];omega⟩,by simp only;omega,[some 0,some 3],_,rfl,by simp[Qd,lk,std,QfG,Qge]⟩
  ·have s5:=hend k hJ0 hk
   have en:=hn.eq
   have hG:out=Q3M l:=by rw[←hJ2,Q1o (by omega),List.append_nil]
   clear en
   generalize hp:std=p,hrs:Q5 l=rs,ho:QL out=o
   generalize hT:Q8 p tys (csN kd fr to wh ok) _ _ _ _=T
   cbv at hT
   subst hT
   simp only[Tree.ok,Q4,S0]
   subst hp hrs ho
   repeat' first
    |(with_reducible refine And.intro (fun hx=>absurd hx (by first|(try simp[std,S1,s5])<;>omega|omega)) (fun _=>?_))
    |(with_reducible refine And.intro (fun _=>?_) (fun hx=>absurd hx (by first|(try simp[std,S1,s5])<;>omega|omega)))
    |(with_reducible refine And.intro (by first|(try simp[std,S1,s5])<;>omega|omega) ?_)
    |(with_reducible refine And.intro ?_ ?_)
    |(with_reducible intro hb)
   rw[if_pos trivial]
   generalize hp:std=p,hrs:Q5 l=rs,ho:QL out=o
   generalize hT:Q8 p tys (csN kd fr to wh ok) _ _ _ _=T
   cbv at hT
   subst hT
   simp only[Tree.ok,Q4,S0]
   subst hp hrs ho
   exact .pure rfl (.inl (by rw[hG]))
def Q3a (l:List Int):List UInt8:=l.flatMap fun n=>32::Q1t n
def Q1l (w:List UInt8)(l:List Int):List UInt8:=w++Q3a l++[10]
theorem Q3l (l:List Int)(h:∀ x∈l,x≤9223372036854775807):(Q3a l).length≤20 * l.length:=by
 induction l with
 |nil=>simp[Q3a]
 |cons x r ih =>
  have h1:=Q3n x (h x (List.mem_cons_self ..))
  have h2:=ih fun y hy=>h y (List.mem_cons_of_mem _ hy)
  have e:Q3a (x::r)=(32::Q1t x)++Q3a r:=rfl
  rw[e,List.length_append,List.length_cons,List.length_cons]
  omega
theorem Q6j (l:List Int){k:Nat}(h:k<l.length):Q3a (l.take (k+1))=Q3a (l.take k)++(32::Q1t (l[k]?.getD 0)):=by
 rw[Q3a,Q3a,List.take_succ_eq_append_getElem h,List.flatMap_append,List.getElem?_eq_getElem h];simp
def ic (l:List Int):List Value:=l.map (.int .i64)
theorem Rd.int64 {w:World}{S:Nat→Prop}{n c:Nat}{A:Option Addr}{l:List Int}(h:Rd w S 1 A n c (ic l)){k:Nat}(hk:k<l.length) :
  ∃ b o,A=some ⟨b,o,none⟩∧w.cell? ⟨b,o+k,none⟩=some (.int .i64 (l[k]?.getD 0)):=by
 have hl:=h.len
 obtain⟨b,o,u,e,_,hu,hc⟩:=h.one (k:=k) (by simp[ic] at hl;omega)
 have hu2:u=.int .i64 (l[k]?.getD 0):=by
  rw[ic,List.getElem?_map,List.getElem?_eq_getElem hk] at hu
  rw[List.getElem?_eq_getElem hk]
  exact (Option.some.inj hu).symm
 exact⟨b,o,e,by rw[←hu2];exact hc⟩
theorem Rd.ilen {w:World}{S:Nat→Prop}{n c:Nat}{A:Option Addr}{l:List Int}(h:Rd w S 1 A n c (ic l)):n=l.length:=by have:=h.len;simpa[ic] using this.symm
theorem QhJ (n:Int)(h0:-9223372036854775808≤n)(h1:n≤9223372036854775807)(w:World) :
  Calls prog 83 #[.int .i64 n] w fun e w'=>e=.returned (.string (bsB (Q1t n)))∧Below w.heap.size w w' :=
 (Qfy n h0 h1).law w (argL_cons (QhR rfl) argL_nil)
theorem Q6e (B b:Nat)(xs:List UInt8)(s:ByteArray)(w:World)(h:Sb B b xs w)(hlen:xs.length+s.size≤1000000000)(hBw:B≤w.heap.size) :
  Calls prog 77 #[.pointer (some ⟨b,0,none⟩),.string s] w fun e w'=>e=.returned (.tuple #[.int .i64 s.size,.nilIface])∧Sb B b (xs++s.data.toList) w'∧Below B w w':=by
 go_enter func77,ntmps77
 go_wp2_with (go_at_call 128;refine (QeM B b xs w h).mono ?_)
 rintro e w1 ⟨rfl,h1,hb1,hk1⟩
 obtain⟨hB,v,hbk,hown,hne⟩:=h1
 have c0:w1.cell? ⟨b,0,none⟩=some (.pointer (some ⟨b,0,none⟩)):=by rw[Lib.cell_of_heap hbk];rfl
 have c1:w1.cell? ⟨b,1,none⟩=some v:=by rw[Lib.cell_of_heap hbk];rfl
 have hs1:B≤w1.heap.size:=by have:=hb1.size;omega
 have hxl:(bc xs).length=xs.length:=by simp
 rw[hxl] at hown
 obtain⟨A0,c2,rfl,hro⟩:=Q1v hown
 have hc2m:c2≤9223372036854775807:=hro.max
 have HO:=Lib.hid hown
 clear hown hro hk1 h
 go_wp2_with (at_builtin;refine Q5z _ rfl (.tmp 12) (.tmp 13) rfl B _ _ _ rfl HO.out s rfl (by omega) hs1 ?_)
 intro A4 c4 w4 hown4 hg4 hc4
 have hlt:b<w1.heap.size:=by
  rcases Nat.lt_or_ge b w1.heap.size with h'|h'
  ·exact h'
  ·simp[Array.getElem?_eq_none h'] at hbk
 have hb2:w4.heap[b]?=some (.cells #[.pointer (some ⟨b,0,none⟩),.slice A0 xs.length c2] 162 (0,0)):=by
  rw[hg4.block b hlt (fun e=>hne e.symm)]
  exact hbk
 have d0:w4.cell? ⟨b,0,none⟩=some (.pointer (some ⟨b,0,none⟩)):=by rw[Lib.cell_of_heap hb2];rfl
 have d1:w4.cell? ⟨b,1,none⟩=some (.slice A0 xs.length c2):=by rw[Lib.cell_of_heap hb2];rfl
 have f1:w4.frozen? ⟨b,1,none⟩=false:=Lib.frozen_of_heap hb2 1
 have HB4:=Lib.hid (Q6C hb1 hs1 HO.out hg4)
 have HO4:=Lib.hid hown4
 clear hown4 hg4
 go_wp2
 go_ret2
 refine⟨rfl,.inr ?_,HB4.out.setCell (p:=⟨b,1,none⟩) hB _⟩
 have hbl:(bc (xs++s.data.toList)).length=xs.length+s.size:=by
  rw[show (bc (xs++s.data.toList)).length=(xs++s.data.toList).length from List.length_map ..,List.length_append,show s.data.toList.length=s.size from Array.length_toList]
 have key:=HO4.out
 rw[←List.map_append] at key
 exact Lib.BuilderAt.put hB hb2 (by rw[hbl];exact key) (by decide)
theorem Q8a (S:Nat→Prop)(A:Option Addr)(n c:Nat)(wd:ByteArray)(l:List Int)(w:World)(hr:Rd w S 1 A n c (ic l))(hne:wd.data.toList≠[])(hwd:wd.size≤1000)(hl:l.length≤1000)(hok:∀ x∈l,-9223372036854775808≤x∧x≤9223372036854775807) :
  Calls prog 78 #[.string wd,.slice A n c] w fun e w'=>e=.returned (.string (bsB (Q1l wd.data.toList l)))∧Below w.heap.size w w':=by
 obtain rfl:=hr.ilen
 have hle:=hr.le
 have hmx:c≤9223372036854775807:=hr.max
 have HR:=Lib.hid hr
 clear hr
 have hwl:wd.data.toList.length=wd.size:=Array.length_toList
 have HSB:Hid (Sb w.heap.size w.heap.size [] (w.alloc (.cells #[.pointer none,.slice none 0 0] 162))):=Lib.fresh_isBuilder 162 5 w
 have hsa:(w.alloc (.cells #[.pointer none,.slice none 0 0] 162)).heap.size=w.heap.size+1:=by simp
 go_enter func78,ntmps78
 go_wp2_with fail
 refine (Q6e w.heap.size w.heap.size [] wd _ HSB.out (by simp;omega) (by omega)).mono ?_
 rintro e w1 ⟨rfl,h1,hb1⟩
 rw[List.nil_append] at h1
 have HO1:=Lib.hid h1
 have HB1:=Lib.hid ((ba w _).trans hb1)
 clear h1 hb1 HSB hsa
 go_wp2
 go_loopw [12] (fun q wr=>∃ (k:Nat),k≤l.length∧q=.int .i64 k∧Hid (Sb w.heap.size w.heap.size (wd.data.toList++Q3a (l.take k)) wr)∧Hid (Below w.heap.size w wr))
  (fun q _=>l.length-(_root_.Go.RowKit.intOf q).toNat)
 case atStart=>exact⟨0,Nat.zero_le _,rfl,by rw[List.take_zero,show wd.data.toList++Q3a []=wd.data.toList from List.append_nil _];exact HO1.out,HB1.out⟩
 case round =>
  obtain⟨k,hk,rfl,HO,HB⟩:=hrel
  have hsz:=HB.out.size
  have hdl:=Q3l (l.take k) fun x hx=>(hok x (List.mem_of_mem_take hx)).2
  rw[List.length_take] at hdl
  by_cases hlt:k<l.length
  ·obtain⟨b,u,rfl,hc2⟩:=(HR.out.below HB.out).int64 hlt
   have HST:=Lib.hid (Q6j l hlt)
   have hn:-9223372036854775808≤l[k]?.getD 0∧l[k]?.getD 0≤9223372036854775807:=by
    rw[List.getElem?_eq_getElem hlt];exact hok _ (List.getElem_mem hlt)
   generalize l[k]?.getD 0=m at hc2 HST hn
   have hml:=Q3n m hn.2
   go_wp2_with fail
   refine (QhJ m hn.1 hn.2 wr).mono ?_
   rintro e w2 ⟨rfl,hb2⟩
   have HO2:=Lib.hid (HO.out.below hb2)
   have HB2:=Lib.hid (bt HB.out hb2)
   have hsz2:=HB2.out.size
   have hcat:(⟨#[32]⟩:ByteArray)++bsB (Q1t m)=bsB (32::Q1t m):=Q11 [32] (Q1t m)
   have HCAT:=Lib.hid hcat
   have hsb:(bsB (Q1t m)).size≤19:=by rw[Q1f];exact hml
   clear hb2 hcat
   go_wp2_with fail
   rw[HCAT.out]
   refine (Q6e w.heap.size w.heap.size _ (bsB (32::Q1t m)) w2 HO2.out (by rw[Q1f,List.length_append,List.length_cons];omega) hsz2).mono ?_
   rintro e w3 ⟨rfl,h3,hb3⟩
   have h4:wd.data.toList++Q3a (l.take k)++(bsB (32::Q1t m)).data.toList=wd.data.toList++Q3a (l.take (k+1)):=by
    rw[HST.out,List.append_assoc];rfl
   rw[h4] at h3
   have HO3:=Lib.hid h3
   have HB3:=Lib.hid (HB2.out.trans hb3)
   clear h3 hb3 h4
   go_wp2
   go_roundw
   case rel=>exact⟨k+1,by omega,by go_num,HO3.out,HB3.out⟩
   case measure=>simp[_root_.Go.RowKit.intOf];omega
  ·have e:l.take k=l:=List.take_of_length_le (by omega)
   rw[e] at HO hdl
   go_wp2_with fail
   refine (Q4a w.heap.size w.heap.size _ wr HO.out (by intro h;exact hne (List.append_eq_nil_iff.1 h).1)).mono ?_
   rintro e w3 ⟨rfl,hb3⟩
   have HB3:=Lib.hid (HB.out.trans hb3)
   have HCAT:=Lib.hid (show (⟨(wd.data.toList++Q3a l).toArray⟩:ByteArray)++(⟨#[10]⟩:ByteArray)=bsB (Q1l wd.data.toList l) from Q11 _ [10])
   have hsz3:((⟨(wd.data.toList++Q3a l).toArray⟩:ByteArray).size:Int)≤30000:=by
    rw[show (⟨(wd.data.toList++Q3a l).toArray⟩:ByteArray).size=(wd.data.toList++Q3a l).length from rfl,List.length_append]
    have:=Q3l l fun x hx=>(hok x hx).2
    omega
   clear hb3
   go_wp2
   go_ret
   exact⟨congrArg (fun x=>Ending.returned (Value.string x)) HCAT.out,HB3.out⟩
structure Rp where
 a0:Int
 a1:Int
 a2:Int
 a3:Int
 a4:Int
 a5:Int
 a6:Int
 a7:Int
 t0:Int
 t1:Int
 t2:Int
 t3:Int
 t4:Int
 t5:Int
 t6:Int
 t7:Int
 t8:Int
 t9:Int
 t10:Int
 t11:Int
 w0:Int
 w1:Int
 w2:Int
 w3:Int
 w4:Int
 w5:Int
def Rp.hd (r:Rp):List Int:=[r.a0,r.a1,r.a2,r.a3,r.a4,r.a5,r.a6,r.a7]
def Rp.tk (r:Rp):List Int:=[r.t1,r.t2,r.t3,r.t4,r.t5,r.t6,r.t7,r.t8,r.t9,r.t10,r.t11]
def Rp.wr (r:Rp):List Int:=[r.w1,r.w2,r.w3,r.w4,r.w5]
def Rp.all (r:Rp):List Int:=[r.a0,r.a1,r.a2,r.a3,r.a4,r.a5,r.a6,r.a7,r.t0,r.t1,r.t2,r.t3,r.t4,r.t5,r.t6,r.t7,r.t8,r.t9,r.t10,r.t11,r.w0,r.w1,r.w2,r.w3,r.w4,r.w5]
def Rp.cs (r:Rp):List AV:=[.val (.int .i64 r.a0),.val (.int .i64 r.a1),.val (.int .i64 r.a2),.val (.int .i64 r.a3),.val (.int .i64 r.a4),.val (.int .i64 r.a5),.val (.int .i64 r.a6),.val (.int .i64 r.a7),.val (.int .i64 r.t0),.val (.int .i64 r.t1),.val (.int .i64 r.t2),.val (.int .i64 r.t3),.val (.int .i64 r.t4),.val (.int .i64 r.t5),.val (.int .i64 r.t6),.val (.int .i64 r.t7),.val (.int .i64 r.t8),.val (.int .i64 r.t9),.val (.int .i64 r.t10),.val (.int .i64 r.t11),.val (.int .i64 r.w0),.val (.int .i64 r.w1),.val (.int .i64 r.w2),.val (.int .i64 r.w3),.val (.int .i64 r.w4),.val (.int .i64 r.w5)]
def Rp.ok (r:Rp):Prop:=∀ x∈r.all,-9223372036854775808≤x∧x≤9223372036854775807
def wordsL:List (List UInt8):=[[98,121,116,101,115],[114,117,110,101,115],[98,97,100],[108,105,110,101,115],[101,108,101,109,101,110,116,115],[100,101,112,116,104],[97,116,116,114,115],[98,105,110,100,115]]
def tokW:List UInt8:=[116,111,107,101,110,115]
def wroW:List UInt8:=[119,114,111,110,103]
def QY (r:Rp)(k:Nat):List UInt8:=((wordsL.zip r.hd).take k).flatMap fun x=>Q1l x.1 [x.2]
def Qdw (r:Rp):List UInt8:=QY r 8++Q1l tokW r.tk++Q1l wroW r.wr
theorem Qij (r:Rp):BCall prog 32 [.agg r.cs] [] (.agg r.cs) []:=by
 unfold Rp.cs
 refine fnN (cs:=cs0) func32 rfl (by kernel_rfl) ?_
 intro w0 g0
 generalize hp:std=p
 generalize hT:Q8 p tys (cs0) _ _ _ _=T
 cbv at hT
 subst hT
 simp only[Tree.ok,Q4,S0]
 subst hp
 exact .pure rfl (Q7B rfl)
def txA (l:List UInt8):AV:=.val (.string (bsB l))
def wdA:List AV:=wordsL.map txA
def Q3B (nb:Int→ByteArray):Nat→List AV→List Ob→Option (AV×List Ob):=fun f args _=>match f,args with
 |80,[.val (.int .i64 n)]=>some (.val (.string (nb n)),[])
 |_,_=>none
def nbB (n:Int):ByteArray:=bsB (Q1t n)
theorem Qdj (a:List UInt8)(n:Int):std.catS (std.catS (bsB a) ⟨#[32]⟩) (nbB n)=bsB (a++(32::Q1t n)):=by
 have e:(⟨#[32]⟩:ByteArray)=bsB [32]:=rfl
 rw[e,nbB,Q11,Q11,List.append_assoc];rfl
theorem Q90 (a:List UInt8)(n:Int)(ha:a.length≤1000000)(hn:n≤9223372036854775807):(std.catok (bsB a) ⟨#[32]⟩).q∧(std.catok (std.catS (bsB a) ⟨#[32]⟩) (nbB n)).q:=by
 have e:(⟨#[32]⟩:ByteArray)=bsB [32]:=rfl
 have:=Q3n n hn
 refine⟨?_,?_⟩
 ·show (((bsB a).size+1:Nat):Int)≤9223372036854775807
  rw[Q1f];omega
 ·rw[e,Q11]
  show (((bsB (a++[32])).size+(bsB (Q1t n)).size:Nat):Int)≤9223372036854775807
  rw[Q1f,Q1f,List.length_append,List.length_singleton];omega
theorem Q3q (a b:List UInt8)(h:a.length+b.length≤1000000000):(std.catok (bsB a) (bsB b)).q:=by
 show (((bsB a).size+(bsB b).size:Nat):Int)≤9223372036854775807
 rw[Q1f,Q1f];omega
def elX (xs:List AV)(i:Int):AV:=std.nth (std.drp (std.cel (std.at_ xs i)) 0) 0
def elS (xs:List AV)(i:Int):ByteArray:=std.str (elX xs i)
def elN (xs:List AV)(i:Int):Int:=std.int (elX xs i)
theorem QiA (i:Int)(h0:0≤i)(h1:i<8):elX wdA i=txA (wordsL[i.toNat]?.getD []):=by
 have:∀ k:Nat,k<8→elX wdA (k:Int)=txA (wordsL[k]?.getD []):=by
  intro k hk
  rcases k with _|_|_|_|_|_|_|_|k<;>first|rfl|omega
 have h:=this i.toNat (by omega)
 rwa [show ((i.toNat:Nat):Int)=i by omega] at h
theorem QiE (r:Rp)(i:Int)(h0:0≤i)(h1:i<8):elX (Q7 r.hd) i=.val (.int .i64 (r.hd[i.toNat]?.getD 0)):=by
 have:∀ k:Nat,k<8→elX (Q7 r.hd) (k:Int)=.val (.int .i64 (r.hd[k]?.getD 0)):=by
  intro k hk
  rcases k with _|_|_|_|_|_|_|_|k<;>first|rfl|omega
 have h:=this i.toNat (by omega)
 rwa [show ((i.toNat:Nat):Int)=i by omega] at h
theorem Q5s (r:Rp)(i:Int)(h0:0≤i)(h1:i<8):QY r (i+1).toNat=QY r i.toNat++Q1l (wordsL[i.toNat]?.getD []) [r.hd[i.toNat]?.getD 0]:=by
 have:∀ k:Nat,k<8→QY r (k+1)=QY r k++Q1l (wordsL[k]?.getD []) [r.hd[k]?.getD 0]:=by
  intro k hk
  rcases k with _|_|_|_|_|_|_|_|k<;>first|(simp[QY,wordsL,Rp.hd];done)|omega
 have h:=this i.toNat (by omega)
 rwa [show i.toNat+1=(i+1).toNat by omega] at h
theorem QeP {r:Rp}(ok:r.ok)(i:Nat):-9223372036854775808≤r.hd[i]?.getD 0∧r.hd[i]?.getD 0≤9223372036854775807:=by
 rcases Nat.lt_or_ge i r.hd.length with h|h
 ·rw[List.getElem?_eq_getElem h]
  refine ok _ ?_
  have:r.hd[i]∈r.hd:=List.getElem_mem h
  have e:r.all=r.hd++r.all.drop 8:=rfl
  rw[e];exact List.mem_append_left _ this
 ·rw[List.getElem?_eq_none h];decide
theorem Qav (w:List UInt8)(n:Int)(hn:n≤9223372036854775807):(Q1l w [n]).length≤w.length+21:=by
 have:=Q3n n hn
 have e:Q1l w [n]=w++(32::Q1t n)++[10]:=by simp[Q1l,Q3a]
 rw[e];simp;omega
theorem QbT (i:Nat):(wordsL[i]?.getD []).length≤8:=by
 rcases i with _|_|_|_|_|_|_|_|k<;>first|decide|(simp[wordsL])
theorem Q2O (r:Rp)(ok:r.ok):∀ k:Nat,k≤8→(QY r k).length≤30 * k
 |0,_=>by simp[QY]
 |k+1,h=>by
  have h1:=Q2O r ok k (by omega)
  have h2:=Q5s r (k:Int) (by omega) (by omega)
  rw[show ((k:Int)+1).toNat=k+1 by omega,Int.toNat_natCast] at h2
  have h3:=Qav (wordsL[k]?.getD []) (r.hd[k]?.getD 0) (QeP ok k).2
  have h4:=QbT k
  rw[h2,List.length_append];omega
def X2 (r:Rp)(i:Int):List UInt8:=QY r 8++tokW++Q3a (r.tk.take (i-1).toNat)
def Qed (r:Rp)(i:Int):Int:=r.tk[(i-1).toNat]?.getD 0
def X3 (r:Rp)(i:Int):List UInt8:=QY r 8++Q1l tokW r.tk++wroW++Q3a (r.wr.take (i-1).toNat)
def Qdx (r:Rp)(i:Int):Int:=r.wr[(i-1).toNat]?.getD 0
theorem Qhq (r:Rp)(i:Int)(h0:1≤i)(h1:i<12):X2 r (i+1)=X2 r i++(32::Q1t (Qed r i)):=by
 rw[X2,X2,Qed,show (i+1-1).toNat=(i-1).toNat+1 by omega,Q6j _ (by show (i-1).toNat<11;omega),←List.append_assoc]
theorem Qht (r:Rp)(i:Int)(h0:1≤i)(h1:i<6):X3 r (i+1)=X3 r i++(32::Q1t (Qdx r i)):=by
 rw[X3,X3,Qdx,show (i+1-1).toNat=(i-1).toNat+1 by omega,Q6j _ (by show (i-1).toNat<5;omega),←List.append_assoc]
theorem Qai {r:Rp}(ok:r.ok):∀ x∈r.tk,-9223372036854775808≤x∧x≤9223372036854775807:=fun x hx=>ok x (by
 have e:r.all=(r.hd++[r.t0])++(r.tk++[r.w0]++r.wr):=rfl
 rw[e];simp[hx])
theorem Qco {r:Rp}(ok:r.ok):∀ x∈r.wr,-9223372036854775808≤x∧x≤9223372036854775807:=fun x hx=>ok x (by
 have e:r.all=(r.hd++[r.t0])++(r.tk++[r.w0]++r.wr):=rfl
 rw[e];simp[hx])
theorem QjG {r:Rp}(ok:r.ok)(i:Int)(h0:1≤i)(h1:i<12):-9223372036854775808≤Qed r i∧Qed r i≤9223372036854775807:=by
 have h:(i-1).toNat<r.tk.length:=by show _<11;omega
 rw[Qed,List.getElem?_eq_getElem h];exact Qai ok _ (List.getElem_mem h)
theorem Qjn {r:Rp}(ok:r.ok)(i:Int)(h0:1≤i)(h1:i<6):-9223372036854775808≤Qdx r i∧Qdx r i≤9223372036854775807:=by
 have h:(i-1).toNat<r.wr.length:=by show _<5;omega
 rw[Qdx,List.getElem?_eq_getElem h];exact Qco ok _ (List.getElem_mem h)
theorem QaC {l:List Int}{k:Nat}{x:Int}(h:x∈l.take k):x∈l:=List.mem_of_mem_take h
theorem Qfl (r:Rp)(ok:r.ok)(i:Int)(h0:1≤i)(h1:i≤12):(X2 r i).length≤600:=by
 have h2:=Q2O r ok 8 (Nat.le_refl _)
 have h3:=Q3l (r.tk.take (i-1).toNat) fun x hx=>(Qai ok x (QaC hx)).2
 rw[List.length_take] at h3
 rw[X2,List.length_append,List.length_append,show tokW.length=6 from rfl];omega
theorem QfI (r:Rp)(ok:r.ok)(i:Int)(h0:1≤i)(h1:i≤6):(X3 r i).length≤700:=by
 have h2:=Q2O r ok 8 (Nat.le_refl _)
 have h3:=Q3l (r.wr.take (i-1).toNat) fun x hx=>(Qco ok x (QaC hx)).2
 have h4:=Q3l r.tk fun x hx=>(Qai ok x hx).2
 have h5:r.tk.length=11:=rfl
 rw[List.length_take] at h3
 rw[X3,Q1l]
 simp only[List.length_append,List.length_singleton,show tokW.length=6 from rfl,show wroW.length=5 from rfl]
 omega
theorem QhV (r:Rp)(ok:r.ok):BCall prog 37 [.agg r.cs] [] (.val (.string (bsB (Qdw r)))) []:=by
 obtain⟨RS,hRS⟩:=exq (Qdw r)
 rw[←hRS]
 unfold Rp.cs
 refine fnN (cs:=Q3B nbB) func37 rfl (by kernel_rfl) ?_
 intro w0 g0
 generalize hp:std=p,hnb:nbB=nb
 generalize hT:Q8 p tys (Q3B nb) _ _ _ _=T
 cbv at hT
 subst hT
 simp only[Tree.ok,Q4,S0]
 subst hp hnb
 refine Q1S (cs:=Q3B nbB) (by kernel_rfl) (X:=Int) (fun i=>⟨[(1,.box 0 0),(2,.val (.string ⟨#[]⟩)),(3,.row 1 0),(4,.row 2 0),(5,.val (.string (bsB (QY r i.toNat)))),(28,.val (.int .i64 8)),(29,.val (.int .i64 i))],[.box r.cs,.row 9 1 false 0 wdA,.row 3 1 false 0 (Q7 r.hd)]⟩) (fun i=>0≤i∧i≤8) (fun i=>(8-i).toNat) 0 ?_ ?_ ?_
 ·exact⟨Int.le_refl _,by decide⟩
 ·refine⟨[some 0,some 1,some 2],_,rfl,?_⟩
  simp[Qd,lk,std,Rp.cs,wdA,txA,wordsL,bsB,QY,Q7,Rp.hd]
  exact⟨rfl,rfl,rfl,rfl,rfl,rfl,rfl,rfl⟩
 ·rintro i ⟨hi0,hi1⟩
  rcases Int.lt_or_eq_of_le hi1 with hlt|heq
  ·have hA:=QiA i hi0 hlt
   have hB:=QiE r i hi0 hlt
   have hst:=Q5s r i hi0 hlt
   have hnk:=QeP ok i.toNat
   have hwl:=QbT i.toNat
   have hhl:=Q2O r ok i.toNat (by omega)
   generalize wordsL[i.toNat]?.getD []=wd at hA hst hwl
   generalize r.hd[i.toNat]?.getD 0=n at hB hst hnk
   have hdl:=Q3n n hnk.2
   have hW:elS wdA i=bsB wd:=by rw[elS,hA];rfl
   have hN:elN (Q7 r.hd) i=n:=by rw[elN,hB];rfl
   have cN:=Q6x n hnk.1 hnk.2
   rw[←hN] at cN
   have hl2:std.ltI i 8=true:=decide_eq_true hlt
   have e32:(⟨#[32]⟩:ByteArray)=bsB [32]:=rfl
   have e10:(⟨#[10]⟩:ByteArray)=bsB [10]:=rfl
   obtain⟨hs,hhs⟩:=exq (QY r i.toNat)
   rw[←hhs] at hst hhl
   have hcat:std.catS (std.catS (std.catS (std.catS (bsB hs) (elS wdA i)) ⟨#[32]⟩) (nbB (elN (Q7 r.hd) i))) ⟨#[10]⟩=bsB (QY r (i+1).toNat):=by
    rw[hW,hN,e32,e10,nbB,Q11,Q11,Q11,Q11,hst,Q1l,Q3a]
    simp
   rw[←hhs]
   unfold Rp.cs
   generalize hp:std=p,hnb:nbB=nb,hW:wdA=W,hH:Q7 r.hd=H,hHS:bsB hs=HS
   generalize hT:Q8 p tys (Q3B nb) _ _ _ _=T
   cbv at hT
   subst hT
   simp only[Tree.ok,Q4,S0]
   subst hp hnb hW hH hHS
   refine⟨fun _=>⟨⟨hi0,?_⟩,⟨?_,trivial⟩,?_,?_,⟨hi0,?_⟩,⟨?_,trivial⟩,cN,?_,?_,?_,i+1,⟨by omega,by omega⟩,by omega,[some 0,some 1,some 2],_,rfl,?_⟩,fun h=>absurd (hl2.symm.trans h) (by decide)⟩
   ·show i<((wdA.length:Nat):Int)
    exact hlt
   ·show elX wdA i=.val (.string (Q9e (elX wdA i)))
    rw[hA];rfl
   ·show (std.catok (bsB hs) (elS wdA i)).q
    rw[hW];exact Q3q _ _ (by omega)
   ·show (std.catok (std.catS (bsB hs) (elS wdA i)) ⟨#[32]⟩).q
    rw[hW,Q11];exact Q3q _ [32] (by simp;omega)
   ·show i<(((Q7 r.hd).length:Nat):Int)
    exact hlt
   ·show elX (Q7 r.hd) i=.val (.int .i64 (intOf (elX (Q7 r.hd) i)))
    rw[hB];rfl
   ·show (std.catok (std.catS (std.catS (bsB hs) (elS wdA i)) ⟨#[32]⟩) (nbB (elN (Q7 r.hd) i))).q
    rw[hW,hN,e32,nbB,Q11,Q11];exact Q3q _ _ (by simp;omega)
   ·show (std.catok (std.catS (std.catS (std.catS (bsB hs) (elS wdA i)) ⟨#[32]⟩) (nbB (elN (Q7 r.hd) i))) ⟨#[10]⟩).q
    rw[hW,hN,e32,nbB,Q11,Q11,Q11];exact Q3q _ [10] (by simp;omega)
   ·show -9223372036854775808≤i+1∧i+1≤9223372036854775807
    omega
   ·repeat first
     |exact trivial
     |refine⟨rfl,?_⟩
     |refine⟨hcat,?_⟩
     |refine⟨gI (hcat),?_⟩
     |refine⟨gA (hcat),?_⟩
     |refine⟨gB (hcat),?_⟩
     |refine⟨gR (hcat),?_⟩
     |refine⟨gT (hcat),?_⟩
  ·rw[heq]
   have hH8:QY r (8:Int).toNat=QY r 8:=rfl
   rw[hH8]
   unfold Rp.cs
   generalize hp:std=p,hnb:nbB=nb,hW:wdA=W,hH:Q7 r.hd=H,hHS:bsB (QY r 8)=HS
   generalize hT:Q8 p tys (Q3B nb) _ _ _ _=T
   cbv at hT
   subst hT
   simp only[Tree.ok,Q4,S0]
   subst hp hnb hW hH hHS
   have hc0:std.catS (bsB (QY r 8)) ⟨#[116,111,107,101,110,115]⟩=bsB (X2 r 1):=by
    rw[show (⟨#[116,111,107,101,110,115]⟩:ByteArray)=bsB tokW from rfl,Q11];simp[X2,Q3a]
   have hk0:(std.catok (bsB (QY r 8)) ⟨#[116,111,107,101,110,115]⟩).q:=Q3q _ tokW (by have:=Q2O r ok 8 (Nat.le_refl _);simp[tokW];omega)
   refine⟨fun h=>absurd h (by decide),fun _=>?_⟩
   rw[if_pos trivial]
   generalize hp:std=p,hnb:nbB=nb,hW:wdA=W,hH:Q7 r.hd=H,hHS:bsB (QY r 8)=HS
   generalize hT:Q8 p tys (Q3B nb) _ _ _ _=T
   cbv at hT
   subst hT
   simp only[Tree.ok,Q4,S0]
   subst hp hnb hW hH hHS
   refine⟨hk0,?_⟩
   clear hk0
   refine Q1S (cs:=Q3B nbB) (by kernel_rfl) (X:=Int) (fun i=>⟨[(1,.box 0 0),(2,.val (.string ⟨#[]⟩)),(5,.val (.string (bsB (X2 r i)))),(7,.val (.int .i64 i))],[.box r.cs,.row 9 1 false 0 wdA,.row 3 1 false 0 (Q7 r.hd)]⟩) (fun i=>1≤i∧i≤12) (fun i=>(12-i).toNat) 1 ?_ ?_ ?_
   ·exact⟨Int.le_refl _,by decide⟩
   ·refine⟨[some 0,some 1,some 2],_,rfl,?_⟩
    repeat first
     |exact trivial
     |refine⟨rfl,?_⟩
     |refine⟨hc0,?_⟩
     |refine⟨gI (hc0),?_⟩
     |refine⟨gA (hc0),?_⟩
     |refine⟨gB (hc0),?_⟩
     |refine⟨gR (hc0),?_⟩
     |refine⟨gT (hc0),?_⟩
   ·clear hc0
    rintro i ⟨hi0,hi1⟩
    rcases Int.lt_or_eq_of_le hi1 with hlt|heq
    ·obtain⟨j,hj⟩:=exq (i+1)
     have hst:=Qhq r i hi0 hlt
     rw[←hj] at hst
     have hlx:=Qfl r ok i hi0 hi1
     have hnk:=QjG ok i hi0 hlt
     obtain⟨X,hX⟩:=exq (X2 r i)
     rw[←hX] at hst hlx ⊢
     obtain⟨n,hn⟩:=exq (Qed r i)
     rw[←hn] at hst hnk
     have hc:=Q90 X n (by omega) hnk.2
     have cN:=Q6x n hnk.1 hnk.2
     have hcat:=Qdj X n
     rw[←hst] at hcat
     clear hX hst hlx
     unfold Rp.cs
     obtain rfl|rfl|rfl|rfl|rfl|rfl|rfl|rfl|rfl|rfl|rfl:i=1∨i=2∨i=3∨i=4∨i=5∨i=6∨i=7∨i=8∨i=9∨i=10∨i=11:=by omega
     all_goals
      subst hn
      generalize hp:std=p,hnb:nbB=nb,hW:wdA=W,hH:Q7 r.hd=H,hHS:bsB X=HS
      generalize hT:Q8 p tys (Q3B nb) _ _ _ _=T
      cbv at hT
      subst hT
      simp only[Tree.ok,Q4,S0]
      subst hp hnb hW hH hHS
      refine⟨fun _=>⟨hc.1,cN,hc.2,(show (-9223372036854775808:Int)≤_∧_≤(9223372036854775807:Int) from by decide),j,⟨?_,?_⟩,?_,[some 0,some 1,some 2],_,rfl,?_⟩,fun h=>absurd h (by decide)⟩
      rotate_left 3
      repeat first
       |exact trivial
       |refine⟨rfl,?_⟩
       |refine⟨hcat,?_⟩
       |refine⟨gI (hcat),?_⟩
       |refine⟨gA (hcat),?_⟩
       |refine⟨gB (hcat),?_⟩
       |refine⟨gR (hcat),?_⟩
       |refine⟨gT (hcat),?_⟩
       |refine⟨hj.symm,?_⟩
       |refine⟨gI (hj.symm),?_⟩
       |refine⟨gA (hj.symm),?_⟩
       |refine⟨gB (hj.symm),?_⟩
       |refine⟨gR (hj.symm),?_⟩
       |refine⟨gT (hj.symm),?_⟩
      all_goals omega
    ·rw[heq]
     clear heq hi0 hi1
     have hX12:X2 r 12=QY r 8++tokW++Q3a r.tk:=by simp[X2,Rp.tk]
     have hc0:std.catS (bsB (X2 r 12)) ⟨#[10,119,114,111,110,103]⟩=bsB (X3 r 1):=by
      rw[show (⟨#[10,119,114,111,110,103]⟩:ByteArray)=bsB (10::wroW) from rfl,Q11,hX12];simp[X3,Q3a,Q1l]
     have hk0:(std.catok (bsB (X2 r 12)) ⟨#[10,119,114,111,110,103]⟩).q:=Q3q _ (10::wroW) (by have:=Qfl r ok 12 (by decide) (by decide);simp[wroW];omega)
     unfold Rp.cs
     generalize hp:std=p,hnb:nbB=nb,hW:wdA=W,hH:Q7 r.hd=H,hHS:bsB (X2 r 12)=HS
     generalize hT:Q8 p tys (Q3B nb) _ _ _ _=T
     cbv at hT
     subst hT
     simp only[Tree.ok,Q4,S0]
     subst hp hnb hW hH hHS
     refine⟨fun h=>absurd h (by decide),fun _=>?_⟩
     rw[if_pos trivial]
     generalize hp:std=p,hnb:nbB=nb,hW:wdA=W,hH:Q7 r.hd=H,hHS:bsB (X2 r 12)=HS
     generalize hT:Q8 p tys (Q3B nb) _ _ _ _=T
     cbv at hT
     subst hT
     simp only[Tree.ok,Q4,S0]
     subst hp hnb hW hH hHS
     refine⟨hk0,?_⟩
     clear hk0
     refine Q1S (cs:=Q3B nbB) (by kernel_rfl) (X:=Int) (fun i=>⟨[(1,.box 0 0),(2,.val (.string ⟨#[]⟩)),(5,.val (.string (bsB (X3 r i)))),(8,.val (.int .i64 i))],[.box r.cs,.row 9 1 false 0 wdA,.row 3 1 false 0 (Q7 r.hd)]⟩) (fun i=>1≤i∧i≤6) (fun i=>(6-i).toNat) 1 ?_ ?_ ?_
     ·exact⟨Int.le_refl _,by decide⟩
     ·refine⟨[some 0,some 1,some 2],_,rfl,?_⟩
      repeat first
       |exact trivial
       |refine⟨rfl,?_⟩
       |refine⟨hc0,?_⟩
       |refine⟨gI (hc0),?_⟩
       |refine⟨gA (hc0),?_⟩
       |refine⟨gB (hc0),?_⟩
       |refine⟨gR (hc0),?_⟩
       |refine⟨gT (hc0),?_⟩
     ·clear hc0
      rintro i ⟨hi0,hi1⟩
      rcases Int.lt_or_eq_of_le hi1 with hlt|heq
      ·obtain⟨j,hj⟩:=exq (i+1)
       have hst:=Qht r i hi0 hlt
       rw[←hj] at hst
       have hlx:=QfI r ok i hi0 hi1
       have hnk:=Qjn ok i hi0 hlt
       obtain⟨X,hX⟩:=exq (X3 r i)
       rw[←hX] at hst hlx ⊢
       obtain⟨n,hn⟩:=exq (Qdx r i)
       rw[←hn] at hst hnk
       have hc:=Q90 X n (by omega) hnk.2
       have cN:=Q6x n hnk.1 hnk.2
       have hcat:=Qdj X n
       rw[←hst] at hcat
       clear hX hst hlx
       unfold Rp.cs
       obtain rfl|rfl|rfl|rfl|rfl:i=1∨i=2∨i=3∨i=4∨i=5:=by omega
       all_goals
        subst hn
        generalize hp:std=p,hnb:nbB=nb,hW:wdA=W,hH:Q7 r.hd=H,hHS:bsB X=HS
        generalize hT:Q8 p tys (Q3B nb) _ _ _ _=T
        cbv at hT
        subst hT
        simp only[Tree.ok,Q4,S0]
        subst hp hnb hW hH hHS
        refine⟨fun _=>⟨hc.1,cN,hc.2,(show (-9223372036854775808:Int)≤_∧_≤(9223372036854775807:Int) from by decide),j,⟨?_,?_⟩,?_,[some 0,some 1,some 2],_,rfl,?_⟩,fun h=>absurd h (by decide)⟩
        rotate_left 3
        repeat first
         |exact trivial
         |refine⟨rfl,?_⟩
         |refine⟨hcat,?_⟩
         |refine⟨gI (hcat),?_⟩
         |refine⟨gA (hcat),?_⟩
         |refine⟨gB (hcat),?_⟩
         |refine⟨gR (hcat),?_⟩
         |refine⟨gT (hcat),?_⟩
         |refine⟨hj.symm,?_⟩
         |refine⟨gI (hj.symm),?_⟩
         |refine⟨gA (hj.symm),?_⟩
         |refine⟨gB (hj.symm),?_⟩
         |refine⟨gR (hj.symm),?_⟩
         |refine⟨gT (hj.symm),?_⟩
        all_goals omega
      ·rw[heq]
       clear heq hi0 hi1
       have hc1:std.catS (bsB (X3 r 6)) ⟨#[10]⟩=bsB RS:=by
        rw[show (⟨#[10]⟩:ByteArray)=bsB [10] from rfl,Q11,hRS];simp[X3,Rp.wr,Qdw,Q1l]
       have hk1:(std.catok (bsB (X3 r 6)) ⟨#[10]⟩).q:=Q3q _ [10] (by have:=QfI r ok 6 (by decide) (by decide);simp;omega)
       unfold Rp.cs
       generalize hp:std=p,hnb:nbB=nb,hW:wdA=W,hH:Q7 r.hd=H,hHS:bsB (X3 r 6)=HS
       generalize hT:Q8 p tys (Q3B nb) _ _ _ _=T
       cbv at hT
       subst hT
       simp only[Tree.ok,Q4,S0]
       subst hp hnb hW hH hHS
       refine⟨fun h=>absurd h (by decide),fun _=>?_⟩
       rw[if_pos trivial]
       generalize hp:std=p,hnb:nbB=nb,hW:wdA=W,hH:Q7 r.hd=H,hHS:bsB (X3 r 6)=HS
       generalize hT:Q8 p tys (Q3B nb) _ _ _ _=T
       cbv at hT
       subst hT
       simp only[Tree.ok,Q4,S0]
       subst hp hnb hW hH hHS
       exact⟨hk1,.pure rfl (.inl (gT hc1))⟩
def SbL (lo b:Nat)(xs:List UInt8)(w:World):Prop :=
 b<lo∧∃ p v,(p=.pointer none∨p=.pointer (some ⟨b,0,none⟩))∧w.heap[b]?=some (.cells #[p,v] 162 (0,0))∧w.ownsRow lo 5 1 v xs.length (bc xs)
structure Bx (lo b:Nat) (w w':World):Prop where
 os:w'.os=w.os
 tape:w'.tape=w.tape
 output:w'.output=w.output
 size:w.heap.size≤w'.heap.size
 keep:∀ k,k<lo→k≠b→w'.heap[k]?=w.heap[k]?
theorem Bx.refl (lo b:Nat)(w:World):Bx lo b w w:=⟨rfl,rfl,rfl,Nat.le_refl _,fun _ _ _=>rfl⟩
theorem Bx.trans {lo b:Nat}{u v w:World}(h:Bx lo b u v)(k:Bx lo b v w):Bx lo b u w :=
 ⟨k.os.trans h.os,k.tape.trans h.tape,k.output.trans h.output,Nat.le_trans h.size k.size,fun i h1 h2=>(k.keep i h1 h2).trans (h.keep i h1 h2)⟩
theorem Bx.of {lo b:Nat}{u w:World}(h:Below u.heap.size u w)(hl:lo≤u.heap.size):Bx lo b u w:=⟨h.os,h.tape,h.output,h.size,fun k hk _=>h.block k (by omega)⟩
theorem Bx.cell {lo b:Nat}{u w:World}(h:Bx lo b u w){k j:Nat}(hk:k<lo)(hb:k≠b):w.cell? ⟨k,j,none⟩=u.cell? ⟨k,j,none⟩:=World.cell?_of_block (h.keep k hk hb)
theorem Qi5:(162:Nat)≠5:=by decide
theorem SbL.ne {lo b:Nat}{w:World}{p v:Value}{n:Nat}{xs:List Value}(hb:w.heap[b]?=some (.cells #[p,v] 162 (0,0)))(ho:w.ownsRow lo 5 1 v n xs):v.ownBlock≠some b:=Lib.ownBlock_ne ho hb Qi5
theorem SbL.below {lo b:Nat}{xs:List UInt8}{w w':World}(h:SbL lo b xs w)(hb:Below w.heap.size w w'):SbL lo b xs w':=by
 obtain⟨h1,p,v,hp,hk,ho⟩:=h
 have hlt:b<w.heap.size:=by
  rcases Nat.lt_or_ge b w.heap.size with h'|h'
  ·exact h'
  ·simp[Array.getElem?_eq_none h'] at hk
 exact⟨h1,p,v,hp,by rw[hb.block b hlt];exact hk,Q8H ho hb⟩
theorem CC2 (b:Nat)(p v:Value)(w:World)(hp:p=.pointer none∨p=.pointer (some ⟨b,0,none⟩))(hb:w.heap[b]?=some (.cells #[p,v] 162 (0,0))) :
  Calls prog 128 #[.pointer (some ⟨b,0,none⟩)] w fun e w'=>e=.returned (.tuple #[])∧w'.heap[b]?=some (.cells #[.pointer (some ⟨b,0,none⟩),v] 162 (0,0))∧w.grownBy w' (some b):=by
 rcases hp with rfl|rfl
 ·refine (Qac b w (by rw[Lib.cell_of_heap hb];rfl) (by simp[World.shape?,hb]) (Lib.frozen_of_heap hb 0)).mono ?_
  rintro e w' ⟨rfl,rfl⟩
  refine⟨rfl,by simp[World.setCell,Array.getElem?_modify,hb],⟨rfl,rfl,rfl,by simp[World.setCell],fun k _ hk=>Below.heap_setCell _ _ _ _ (fun e=>hk (by simp[e]))⟩⟩
 ·refine (QcB b w (by rw[Lib.cell_of_heap hb];rfl)).mono ?_
  rintro e w' ⟨rfl,rfl⟩
  exact⟨rfl,hb,⟨rfl,rfl,rfl,Nat.le_refl _,fun _ _ _=>rfl⟩⟩
theorem Q47 (lo b:Nat)(xs:List UInt8)(s:ByteArray)(w:World)(h:SbL lo b xs w)(hlen:xs.length+s.size≤1000000000)(hlw:lo≤w.heap.size) :
  Calls prog 77 #[.pointer (some ⟨b,0,none⟩),.string s] w fun e w'=>e=.returned (.tuple #[.int .i64 s.size,.nilIface])∧SbL lo b (xs++s.data.toList) w'∧Bx lo b w w':=by
 obtain⟨hbl,p,v,hp,hbk0,hown0⟩:=h
 have hne:=SbL.ne hbk0 hown0
 go_enter func77,ntmps77
 go_wp2_with (go_at_call 128;refine (CC2 b p v w hp hbk0).mono ?_)
 rintro e w1 ⟨rfl,hbk,hg1⟩
 have hown:w1.ownsRow lo 5 1 v xs.length (bc xs):=hown0.kept (row:=some b) hg1 (Or.inr hne)
 have c0:w1.cell? ⟨b,0,none⟩=some (.pointer (some ⟨b,0,none⟩)):=by rw[Lib.cell_of_heap hbk];rfl
 have c1:w1.cell? ⟨b,1,none⟩=some v:=by rw[Lib.cell_of_heap hbk];rfl
 have hs1:lo≤w1.heap.size:=by have:=hg1.size;omega
 obtain⟨A0,c2,rfl,hro⟩:=Q1v hown
 have hc2m:c2≤9223372036854775807:=hro.max
 have HO:=Lib.hid hown
 have HG1:=Lib.hid hg1
 clear hown hro hown0 hg1 hp
 go_wp2_with (at_builtin;refine Q5z _ rfl (.tmp 12) (.tmp 13) rfl lo _ _ _ rfl HO.out s rfl (by omega) hs1 ?_)
 intro A4 c4 w4 hown4 hg4 hc4
 have hlt:b<w1.heap.size:=by omega
 have hb2:w4.heap[b]?=some (.cells #[.pointer (some ⟨b,0,none⟩),.slice A0 xs.length c2] 162 (0,0)):=by
  rw[hg4.block b hlt (fun e=>hne e.symm)]
  exact hbk
 have d0:w4.cell? ⟨b,0,none⟩=some (.pointer (some ⟨b,0,none⟩)):=by rw[Lib.cell_of_heap hb2];rfl
 have d1:w4.cell? ⟨b,1,none⟩=some (.slice A0 xs.length c2):=by rw[Lib.cell_of_heap hb2];rfl
 have f1:w4.frozen? ⟨b,1,none⟩=false:=Lib.frozen_of_heap hb2 1
 have HB4:Hid (Bx lo b w w4):=by
  have h1:=HG1.out
  refine⟨hg4.os.trans h1.os,hg4.tape.trans h1.tape,hg4.output.trans h1.output,Nat.le_trans h1.size hg4.size,fun k hk hkb=>?_⟩
  rw[hg4.block k (by omega) (fun e=>by have:=(HO.out.lt k e.symm).1;omega),h1.block k (by omega) (fun e=>hkb (Option.some.inj e))]
 have HO4:=Lib.hid hown4
 have HB2:=Lib.hid hb2
 have hbl4:b<w4.heap.size:=by have:=hg4.size;omega
 clear hown4 hg4 hb2
 go_wp2
 go_ret2
 have hbx:Bx lo b w4 (w4.setCell ⟨b,1,none⟩ (.slice A4 (xs.length+s.size) c4)):=⟨rfl,rfl,rfl,by simp[World.setCell],fun k _ hk=>Below.heap_setCell _ _ _ _ (fun e=>hk (by simp[e]))⟩
 refine⟨rfl,⟨hbl,_,_,.inr rfl,by simp[World.setCell,Array.getElem?_modify,HB2.out];rfl,?_⟩,HB4.out.trans hbx⟩
 have key:=HO4.out
 rw[←List.map_append] at key
 have hbln:(xs++s.data.toList).length=xs.length+s.size:=by rw[List.length_append,show s.data.toList.length=s.size from Array.length_toList]
 rw[hbln]
 exact World.ownsRow.kept (row:=some b) key ⟨rfl,rfl,rfl,by simp[World.setCell],fun k _ hk=>Below.heap_setCell _ _ _ _ (fun e=>hk (by simp[e]))⟩ (Or.inr (Lib.ownBlock_ne key HB2.out Qi5))
theorem Q8o (lo b:Nat)(l:List UInt8)(w:World)(h:SbL lo b l w)(h0:l≠[]) :
  Calls prog 79 #[.pointer (some ⟨b,0,none⟩)] w fun e w'=>e=.returned (.string ⟨l.toArray⟩)∧Below b w w':=by
 obtain⟨hbl,p,v,hp,hbk,hown⟩:=h
 have hne:=SbL.ne hbk hown
 have hown':w.ownsRow b 5 1 v (bc l).length (bc l):=by
  rw[show (bc l).length=l.length from List.length_map ..]
  obtain⟨h1,h2⟩:=hown
  refine⟨h1,?_⟩
  rcases h2 with h2|⟨g,cap,cur,e1,h3,h4⟩
  ·exact .inl h2
  ·exact .inr ⟨g,cap,cur,e1,by omega,h4⟩
 refine Q4a b b l w ?_ h0
 rcases hp with rfl|rfl
 ·exact .inl ⟨Nat.le_refl _,v,hbk,hown',hne⟩
 ·exact .inr ⟨Nat.le_refl _,v,hbk,hown',hne⟩
def Rp.vs (r:Rp):Array Value:=(r.all.map (Value.int .i64)).toArray
theorem QdU (w:World)(o:Obj):(w.alloc o).heap[w.heap.size]?=some o:=by
 show (w.heap.push o)[w.heap.size]?=some o
 simp
theorem Qjo (r:Rp)(i:Int)(h0:0≤i)(h1:i<8)(W:World):(Instr.index 164 (.agg #[.int .i64 r.a0,.int .i64 r.a1,.int .i64 r.a2,.int .i64 r.a3,.int .i64 r.a4,.int .i64 r.a5,.int .i64 r.a6,.int .i64 r.a7]) (.int .i64 i)).run prog W=.ok (.int .i64 (r.hd[i.toNat]?.getD 0)) W:=by
 obtain rfl|rfl|rfl|rfl|rfl|rfl|rfl|rfl:i=0∨i=1∨i=2∨i=3∨i=4∨i=5∨i=6∨i=7:=by omega
 all_goals kernel_rfl
theorem QdC (r:Rp)(ok:r.ok)(w:World) :
  Calls prog 36 #[.agg r.vs] w fun e w'=>e=.returned (.string (bsB (Qdw r)))∧Below w.heap.size w w':=by
 have hvs:r.vs=#[.int .i64 r.a0,.int .i64 r.a1,.int .i64 r.a2,.int .i64 r.a3,.int .i64 r.a4,.int .i64 r.a5,.int .i64 r.a6,.int .i64 r.a7,.int .i64 r.t0,.int .i64 r.t1,.int .i64 r.t2,.int .i64 r.t3,.int .i64 r.t4,.int .i64 r.t5,.int .i64 r.t6,.int .i64 r.t7,.int .i64 r.t8,.int .i64 r.t9,.int .i64 r.t10,.int .i64 r.t11,.int .i64 r.w0,.int .i64 r.w1,.int .i64 r.w2,.int .i64 r.w3,.int .i64 r.w4,.int .i64 r.w5]:=rfl
 rw[hvs]
 clear hvs
 obtain⟨w3,hw3⟩:=exq (((w.alloc (Obj.cells #[.int .i64 r.a0,.int .i64 r.a1,.int .i64 r.a2,.int .i64 r.a3,.int .i64 r.a4,.int .i64 r.a5,.int .i64 r.a6,.int .i64 r.a7,.int .i64 r.t0,.int .i64 r.t1,.int .i64 r.t2,.int .i64 r.t3,.int .i64 r.t4,.int .i64 r.t5,.int .i64 r.t6,.int .i64 r.t7,.int .i64 r.t8,.int .i64 r.t9,.int .i64 r.t10,.int .i64 r.t11,.int .i64 r.w0,.int .i64 r.w1,.int .i64 r.w2,.int .i64 r.w3,.int .i64 r.w4,.int .i64 r.w5] 85)).alloc (Obj.cells #[.pointer none,.slice none 0 0] 162)).alloc (Obj.cells #[.string ⟨#[98,121,116,101,115]⟩,.string ⟨#[114,117,110,101,115]⟩,.string ⟨#[98,97,100]⟩,.string ⟨#[108,105,110,101,115]⟩,.string ⟨#[101,108,101,109,101,110,116,115]⟩,.string ⟨#[100,101,112,116,104]⟩,.string ⟨#[97,116,116,114,115]⟩,.string ⟨#[98,105,110,100,115]⟩] 163))
 have hsz:w3.heap.size=w.heap.size+3:=by rw[hw3];simp
 have hbelow:Below w.heap.size w w3:=by
  rw[hw3]
  exact (((Below.refl _ w).alloc (Nat.le_refl _) _).alloc (by simp) _).alloc (by simp;omega) _
 have hwd:∀ j u,(#[.string ⟨#[98,121,116,101,115]⟩,.string ⟨#[114,117,110,101,115]⟩,.string ⟨#[98,97,100]⟩,.string ⟨#[108,105,110,101,115]⟩,.string ⟨#[101,108,101,109,101,110,116,115]⟩,.string ⟨#[100,101,112,116,104]⟩,.string ⟨#[97,116,116,114,115]⟩,.string ⟨#[98,105,110,100,115]⟩]:Array Value)[j]?=some u→w3.cell? ⟨w.heap.size+2,j,none⟩=some u:=fun j u h=>by
  have:w.heap.size+2=((w.alloc (Obj.cells #[.int .i64 r.a0,.int .i64 r.a1,.int .i64 r.a2,.int .i64 r.a3,.int .i64 r.a4,.int .i64 r.a5,.int .i64 r.a6,.int .i64 r.a7,.int .i64 r.t0,.int .i64 r.t1,.int .i64 r.t2,.int .i64 r.t3,.int .i64 r.t4,.int .i64 r.t5,.int .i64 r.t6,.int .i64 r.t7,.int .i64 r.t8,.int .i64 r.t9,.int .i64 r.t10,.int .i64 r.t11,.int .i64 r.w0,.int .i64 r.w1,.int .i64 r.w2,.int .i64 r.w3,.int .i64 r.w4,.int .i64 r.w5] 85)).alloc (Obj.cells #[.pointer none,.slice none 0 0] 162)).heap.size:=by simp
  rw[hw3,this];exact Q7f _ _ _ _ h
 have hrp:∀ j u,(#[.int .i64 r.a0,.int .i64 r.a1,.int .i64 r.a2,.int .i64 r.a3,.int .i64 r.a4,.int .i64 r.a5,.int .i64 r.a6,.int .i64 r.a7,.int .i64 r.t0,.int .i64 r.t1,.int .i64 r.t2,.int .i64 r.t3,.int .i64 r.t4,.int .i64 r.t5,.int .i64 r.t6,.int .i64 r.t7,.int .i64 r.t8,.int .i64 r.t9,.int .i64 r.t10,.int .i64 r.t11,.int .i64 r.w0,.int .i64 r.w1,.int .i64 r.w2,.int .i64 r.w3,.int .i64 r.w4,.int .i64 r.w5]:Array Value)[j]?=some u→w3.cell? ⟨w.heap.size,j,none⟩=some u:=fun j u h=>by
  have h1:=Q7f w #[.int .i64 r.a0,.int .i64 r.a1,.int .i64 r.a2,.int .i64 r.a3,.int .i64 r.a4,.int .i64 r.a5,.int .i64 r.a6,.int .i64 r.a7,.int .i64 r.t0,.int .i64 r.t1,.int .i64 r.t2,.int .i64 r.t3,.int .i64 r.t4,.int .i64 r.t5,.int .i64 r.t6,.int .i64 r.t7,.int .i64 r.t8,.int .i64 r.t9,.int .i64 r.t10,.int .i64 r.t11,.int .i64 r.w0,.int .i64 r.w1,.int .i64 r.w2,.int .i64 r.w3,.int .i64 r.w4,.int .i64 r.w5] 85 j h
  rw[hw3]
  exact Q3g (ba _ _) (Q3g (ba _ _) h1)
 have hsb:SbL (w.heap.size+3) (w.heap.size+1) [] w3:=by
  refine⟨by omega,_,.slice none 0 0,.inl rfl,?_,⟨rfl,.inl ⟨rfl,rfl⟩⟩⟩
  rw[hw3]
  refine ((ba _ _).block _ (by simp)).trans ?_
  rw[show w.heap.size+1=(w.alloc (Obj.cells #[.int .i64 r.a0,.int .i64 r.a1,.int .i64 r.a2,.int .i64 r.a3,.int .i64 r.a4,.int .i64 r.a5,.int .i64 r.a6,.int .i64 r.a7,.int .i64 r.t0,.int .i64 r.t1,.int .i64 r.t2,.int .i64 r.t3,.int .i64 r.t4,.int .i64 r.t5,.int .i64 r.t6,.int .i64 r.t7,.int .i64 r.t8,.int .i64 r.t9,.int .i64 r.t10,.int .i64 r.t11,.int .i64 r.w0,.int .i64 r.w1,.int .i64 r.w2,.int .i64 r.w3,.int .i64 r.w4,.int .i64 r.w5] 85)).heap.size by simp]
  exact QdU _ _
 have HSB:=Lib.hid hsb
 have HWD:=Lib.hid hwd
 have HRP:=Lib.hid hrp
 have HBL:=Lib.hid hbelow
 clear hsb hwd hrp hbelow
 go_enter func36,ntmps36
 go_wp2_with fail
 rw[←hw3]
 clear hw3
 go_loopw [25] (fun q wr=>∃ (i:Int),0≤i∧i≤8∧q=.int .i64 i∧Hid (SbL (w.heap.size+3) (w.heap.size+1) (QY r i.toNat) wr)∧Hid (Bx (w.heap.size+3) (w.heap.size+1) w3 wr))
  (fun q _=>8-(_root_.Go.RowKit.intOf q).toNat)
 case atStart=>exact⟨0,Int.le_refl _,by decide,rfl,HSB.out,Bx.refl _ _ _⟩
 case round =>
  obtain⟨i,hi0,hi,rfl,HO,HB⟩:=hrel
  have hsw:=HB.out.size
  rcases Int.lt_or_le i 8 with hlt|hge
  ·obtain⟨j,hj⟩:=exq (i+1)
   have hst:=Q5s r i hi0 hlt
   rw[←hj] at hst
   have hhl:=Q2O r ok i.toNat (by omega)
   have hnk:=QeP ok i.toNat
   have hwk:=QbT i.toNat
   have hwn:wordsL[i.toNat]?.getD []≠[]:=by
    have:∀ k:Nat,k<8→wordsL[k]?.getD []≠[]:=by decide
    exact this _ (by omega)
   have hc:wr.cell? ⟨w.heap.size+2,i.toNat,none⟩=some (.string (bsB (wordsL[i.toNat]?.getD []))):=by
    rw[HB.out.cell (by omega) (by omega)]
    refine HWD.out _ _ ?_
    have:∀ k:Nat,k<8→(#[.string ⟨#[98,121,116,101,115]⟩,.string ⟨#[114,117,110,101,115]⟩,.string ⟨#[98,97,100]⟩,.string ⟨#[108,105,110,101,115]⟩,.string ⟨#[101,108,101,109,101,110,116,115]⟩,.string ⟨#[100,101,112,116,104]⟩,.string ⟨#[97,116,116,114,115]⟩,.string ⟨#[98,105,110,100,115]⟩]:Array Value)[k]?=some (.string (bsB (wordsL[k]?.getD []))):=by
     intro k hk
     rcases k with _|_|_|_|_|_|_|_|k<;>first|rfl|omega
    exact this _ (by omega)
   have HST:=Lib.hid hst
   clear hst
   generalize wordsL[i.toNat]?.getD []=wd at HST hwk hwn hc
   obtain⟨n,hn⟩:=exq (r.hd[i.toNat]?.getD 0)
   have hIx:=Qjo r i hi0 hlt
   rw[←hn] at HST hnk hIx
   obtain⟨hs,hhs⟩:=exq (QY r i.toNat)
   rw[←hhs] at HST HO hhl
   have hll:=Qav wd n hnk.2
   clear hhs
   have HJ:=Lib.hid hj
   have HN:=Lib.hid hn
   clear hj hn
   obtain rfl|rfl|rfl|rfl|rfl|rfl|rfl|rfl:i=0∨i=1∨i=2∨i=3∨i=4∨i=5∨i=6∨i=7:=by omega
   all_goals
    have hn:=HN.out
    simp only[Rp.hd,Int.toNat_zero,Int.toNat_one,Int.reduceToNat,List.getElem?_cons_zero,List.getElem?_cons_succ,Option.getD_some] at hn
    subst hn
    simp only[Int.toNat_zero,Int.toNat_one,Int.reduceToNat] at hc
    go_wp2_with fail
    refine (Q8a _ _ 1 1 (bsB wd) [_] _ (Rd.litN wr wr.heap.size rfl _ #[_] 1 1 rfl (by decide)) (by simpa[bsB] using hwn) (by rw[Q1f];omega) (by simp) (fun x hx=>by rw[List.mem_singleton] at hx;rw[hx];exact hnk)).mono ?_
    rintro e w4 ⟨rfl,hb4⟩
    rw[show (bsB wd).data.toList=wd from List.toList_toArray]
    have HB4:=Lib.hid (HB.out.trans (Bx.of (bt (ba wr _) hb4) (by omega)))
    have HO4:=Lib.hid (HO.out.below (bt (ba wr _) hb4))
    have hsz4:w.heap.size+3≤w4.heap.size:=by have:=hb4.size;simp at this;omega
    clear hb4
    go_wp2_with fail
    refine (Q47 (w.heap.size+3) (w.heap.size+1) hs (bsB (Q1l wd [_])) w4 HO4.out (by rw[Q1f];omega) hsz4).mono ?_
    rintro e w5 ⟨rfl,h5,hb5⟩
    have HO5:=Lib.hid h5
    have HB5:=Lib.hid (HB4.out.trans hb5)
    clear h5 hb5
    go_wp2
    go_roundw
    case rel=>exact⟨j,by rw[HJ.out];decide,by rw[HJ.out];decide,by rw[HJ.out];rfl,by rw[HST.out];exact HO5.out,HB5.out⟩
    case measure=>simp[_root_.Go.RowKit.intOf]
  ·obtain rfl:i=8:=by omega
   have hhl:=Q2O r ok 8 (Nat.le_refl _)
   have h8:QY r (8:Int).toNat=QY r 8:=rfl
   rw[h8] at HO
   have hRt:∀ W,Bx (w.heap.size+3) (w.heap.size+1) w3 W→Rd W (fun _=>True) 1 (some ⟨w.heap.size,9,none⟩) 11 11 (ic r.tk):=fun W hW =>
    ⟨rfl,Nat.le_refl _,by decide,fun h=>(by cases h),fun _=>⟨_,_,rfl,trivial,fun j u h=>by
     rw[hW.cell (by omega) (by omega)]
     refine HRP.out _ _ ?_
     rcases j with _|_|_|_|_|_|_|_|_|_|_|j<;>first|exact h|(simp[ic,Rp.tk] at h)⟩⟩
   have hRw:∀ W,Bx (w.heap.size+3) (w.heap.size+1) w3 W→Rd W (fun _=>True) 1 (some ⟨w.heap.size,21,none⟩) 5 5 (ic r.wr):=fun W hW =>
    ⟨rfl,Nat.le_refl _,by decide,fun h=>(by cases h),fun _=>⟨_,_,rfl,trivial,fun j u h=>by
     rw[hW.cell (by omega) (by omega)]
     refine HRP.out _ _ ?_
     rcases j with _|_|_|_|_|j<;>first|exact h|(simp[ic,Rp.wr] at h)⟩⟩
   have HRT:=Lib.hid hRt
   have HRW:=Lib.hid hRw
   have htl:(Q1l tokW r.tk).length≤300:=by
    have:=Q3l r.tk fun x hx=>(Qai ok x hx).2
    have h2:r.tk.length=11:=rfl
    simp only[Q1l,List.length_append,List.length_singleton,show tokW.length=6 from rfl];omega
   have hwl:(Q1l wroW r.wr).length≤300:=by
    have:=Q3l r.wr fun x hx=>(Qco ok x hx).2
    have h2:r.wr.length=5:=rfl
    simp only[Q1l,List.length_append,List.length_singleton,show wroW.length=5 from rfl];omega
   clear hRt hRw
   go_wp2_with fail
   refine (Q8a _ _ 11 11 (bsB tokW) r.tk wr (HRT.out _ HB.out) (by decide) (by decide) (by show 11≤1000;omega) (Qai ok)).mono ?_
   rintro e w4 ⟨rfl,hb4⟩
   rw[show (bsB tokW).data.toList=tokW from List.toList_toArray]
   have HB4:=Lib.hid (HB.out.trans (Bx.of hb4 (by omega)))
   have HO4:=Lib.hid (HO.out.below hb4)
   have hsz4:w.heap.size+3≤w4.heap.size:=by have:=hb4.size;omega
   clear hb4
   go_wp2_with fail
   refine (Q47 (w.heap.size+3) (w.heap.size+1) _ (bsB (Q1l tokW r.tk)) w4 HO4.out (by rw[Q1f];omega) hsz4).mono ?_
   rintro e w5 ⟨rfl,h5,hb5⟩
   rw[show (bsB (Q1l tokW r.tk)).data.toList=Q1l tokW r.tk from List.toList_toArray] at h5
   have HO5:=Lib.hid h5
   have HB5:=Lib.hid (HB4.out.trans hb5)
   have hsz5:w.heap.size+3≤w5.heap.size:=by have:=hb5.size;omega
   clear h5 hb5
   go_wp2_with fail
   refine (Q8a _ _ 5 5 (bsB wroW) r.wr w5 (HRW.out _ HB5.out) (by decide) (by decide) (by show 5≤1000;omega) (Qco ok)).mono ?_
   rintro e w6 ⟨rfl,hb6⟩
   rw[show (bsB wroW).data.toList=wroW from List.toList_toArray]
   have HB6:=Lib.hid (HB5.out.trans (Bx.of hb6 (by omega)))
   have HO6:=Lib.hid (HO5.out.below hb6)
   have hsz6:w.heap.size+3≤w6.heap.size:=by have:=hb6.size;omega
   clear hb6
   go_wp2_with fail
   refine (Q47 (w.heap.size+3) (w.heap.size+1) _ (bsB (Q1l wroW r.wr)) w6 HO6.out (by rw[Q1f,List.length_append];omega) hsz6).mono ?_
   rintro e w7 ⟨rfl,h7,hb7⟩
   rw[show (bsB (Q1l wroW r.wr)).data.toList=Q1l wroW r.wr from List.toList_toArray] at h7
   have HO7:=Lib.hid h7
   have HB7:=Lib.hid (HB6.out.trans hb7)
   clear h7 hb7
   go_wp2_with fail
   refine (Q8o (w.heap.size+3) (w.heap.size+1) _ w7 HO7.out (by simp[Q1l])).mono ?_
   rintro e w8 ⟨rfl,hb8⟩
   have HB8:=Lib.hid hb8
   clear hb8
   go_wp2
   go_ret
   refine⟨congrArg (fun x=>Ending.returned (Value.string (bsB x))) (List.append_assoc (QY r 8) (Q1l tokW r.tk) (Q1l wroW r.wr)).symm,HBL.out.trans ?_⟩
   have h7:=HB7.out
   have h8:=HB8.out
   exact⟨h8.os.trans h7.os,h8.tape.trans h7.tape,h8.output.trans h7.output,Nat.le_trans h7.size h8.size,fun k hk=>(h8.block k (by omega)).trans (h7.keep k (by omega) (by omega))⟩
theorem QgJ (r:Rp)(ok:r.ok):BCall prog 36 [.agg r.cs] [] (.val (.string (bsB (Qdw r)))) []:=by
 refine BCall.hand (enters_of func36 (by kernel_rfl) rfl) fun w g vs M hL=>?_
 obtain⟨v1,vs1,rfl,k1,hL⟩:=Q1e hL
 obtain rfl:=Q48 hL
 obtain⟨cs,rfl,hc⟩:=k1
 have hcs:cs=r.vs:=by
  have e:r.cs=(r.all.map (Value.int .i64)).map .val:=rfl
  have h1:cs.toList=r.all.map (Value.int .i64):=by
   refine List.ext_getElem? fun j=>?_
   rw[e] at hc
   have hl:=hc.1
   rw[List.length_map] at hl
   rcases Nat.lt_or_ge j cs.toList.length with h|h
   ·have h2:j<(r.all.map (Value.int .i64)).length:=by omega
    have h3:=(hc.2 j _ _ (List.getElem?_eq_getElem h) (by rw[List.getElem?_map,List.getElem?_eq_getElem h2];rfl)).1
    rw[List.getElem?_eq_getElem h,List.getElem?_eq_getElem h2]
    exact congrArg some (ARel.valEq (ob:=[]) h3)
   ·rw[List.getElem?_eq_none h,List.getElem?_eq_none (by omega)]
  rw[←Array.toArray_toList (xs:=cs),h1];rfl
 rw[hcs]
 exact (QdC r ok w).mono fun e w' ⟨h,hb⟩=>⟨_,h,hb,.val _ rfl⟩
end Go.Proofs.YtibemhahkicbpaaGreat
