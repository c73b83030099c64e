/-
  Parts of the proof, joined: Yh. Conditions: as each theorem says.
-/
import Derived.Test.YthbjpdijafccjaaGreatQE42
import Derived.Test.YthbjpdijafccjaaGreatQE27
import Derived.Test.YthbjpdijafccjaaGreatQE13
set_option maxRecDepth 100000
set_option maxHeartbeats 8000000
namespace Go.Proofs.YthbjpdijafccjaaGreat
open Go.RowKit Go.Lib
theorem Q9t (l:List Int):∀ n k:Nat,l.length-k≤n→∀ x∈Q1U l k,0≤x.from_∧x.from_≤x.to∧x.to≤l.length
 |0,k,h=>fun x hx=>by rw[Q1q (by omega)] at hx;cases hx
 |n+1,k,h=>fun x hx=>by
  by_cases hk:k<l.length
  ·obtain⟨h1,h2,h3,h4⟩:=Q84 l hk
   rw[Q1W hk] at hx
   rcases List.mem_cons.1 hx with rfl|hx
   ·rw[h1,h2];omega
   ·exact Q9t l n (Qk l k).2.1 (by omega) x hx
  ·rw[Q1q hk] at hx;cases hx
structure RB (s:RSt) (i:Nat):Prop where
 w:s.wr.length+s.op.length≤2 * i
 e:s.ev.length+2 * s.op.length≤1+4 * i
 n:∀ x∈s.op,∀ r∈x,0<Qw r
theorem Q9D (t:Txt)(f:Int)(k:Nat):∀ (n:Nat) (s:RSt),(Q1k t f k n s).wr.length+(Q1k t f k n s).op.length≤s.wr.length+s.op.length∧(Q1k t f k n s).ev.length+2 * (Q1k t f k n s).op.length≤s.ev.length+2 * s.op.length∧∀ x∈(Q1k t f k n s).op,x∈s.op
 |0,s=>⟨Nat.le_refl _,Nat.le_refl _,fun x hx=>hx⟩
 |n+1,s=>by
  unfold Q1k
  split
  ·rename_i h
   obtain⟨h1,h2,h3⟩:=Q9D t f k n (Q2j t f s)
   have e1:(Q2j t f s).op.length=s.op.length-1:=by show (s.op.take (s.op.length-1)).length=_;rw[List.length_take];omega
   have e2:(Q2j t f s).wr.length=s.wr.length+1:=by show (s.wr++[_]).length=_;simp
   have e3:(Q2j t f s).ev.length=s.ev.length+2:=by show (s.ev++[_,_]).length=_;simp
   exact⟨by omega,by omega,fun x hx=>List.mem_of_mem_take (h3 x hx)⟩
  ·exact⟨Nat.le_refl _,Nat.le_refl _,fun x hx=>hx⟩
def Q8E (t:Txt)(kind f u:Int)(wh:Bool)(s:RSt):RSt:=if wh=false then Q2F t 1 f u s else if (kind=8∨kind=9∨kind=10)∧(QR t.r f u).right=false then Q2F t 2 f u s else s
theorem Qf6 (t:Txt)(kind f u:Int)(wh:Bool)(s:RSt):(Q8E t kind f u wh s).op=s.op∧(Q8E t kind f u wh s).ev=s.ev∧(Q8E t kind f u wh s).wr.length≤s.wr.length+1:=by
 unfold Q8E
 split
 ·exact⟨rfl,rfl,by show (s.wr++[_]).length≤_;simp⟩
 ·split
  ·exact⟨rfl,rfl,by show (s.wr++[_]).length≤_;simp⟩
  ·exact⟨rfl,rfl,Nat.le_succ _⟩
theorem Qb7 (t:Txt)(b:List UInt8)(kind f u:Int)(wh:Bool)(s:RSt):Q9i t b kind f u wh s=if wh=true∧kind=8∧0<(Qo t f u).length then Q58 t b kind f u (Q8E t kind f u wh s)
 else if wh=true∧kind=10 then QcW t b kind f u (Q8E t kind f u wh s) else Q1V t b kind f u (Q8E t kind f u wh s):=rfl
theorem RB.token {s:RSt}{i:Nat}(h:RB s i)(t:Txt)(b:List UInt8)(kind:Int){f u:Int}(h0:0≤f)(h1:f≤u)(h2:u≤t.r.length)(wh:Bool):RB (Q9i t b kind f u wh s) (i+1):=by
 obtain⟨e1,e2,e3⟩:=Qf6 t kind f u wh s
 rw[Qb7]
 generalize Q8E t kind f u wh s=s1 at e1 e2 e3
 have hw:=h.w
 have he:=h.e
 have hn:=h.n
 rw[←e1,←e2] at he
 rw[←e1] at hw hn
 have leafRB:∀ (s2:RSt) (c:Nat),s2.wr.length+s2.op.length≤2 * i+c→c≤2→s2.ev.length+2 * s2.op.length≤1+4 * i+3→(∀ x∈s2.op,∀ r∈x,0<Qw r)→RB (Q1V t b kind f u s2) (i+1):=fun s2 c k1 kc k2 k3 =>
  ⟨by show s2.wr.length+s2.op.length≤_;omega,by show (s2.ev++[_]).length+2 * s2.op.length≤_;rw[List.length_append,List.length_singleton];omega,k3⟩
 split
 ·unfold Q58
  split
  ·refine leafRB _ 2 ?_ (Nat.le_refl _) ?_ hn
   ·show (s1.wr++[_]).length+s1.op.length≤_
    rw[List.length_append,List.length_singleton];omega
   ·show s1.ev.length+2 * s1.op.length≤_;omega
  ·refine leafRB _ 2 ?_ (Nat.le_refl _) ?_ ?_
   ·show s1.wr.length+(s1.op++[_]).length≤_
    rw[List.length_append,List.length_singleton];omega
   ·show (s1.ev++[_]).length+2 * (s1.op++[_]).length≤_
    simp only[List.length_append,List.length_singleton];omega
   ·intro x hx
    rcases List.mem_append.1 hx with hx|hx
    ·exact hn x hx
    ·obtain rfl:x=Qo t f u:=by simpa using hx
     exact QaJ t h0 h1 h2
 ·split
  ·unfold QcW
   split
   ·refine leafRB _ 2 ?_ (Nat.le_refl _) ?_ hn
    ·show (s1.wr++[_]).length+s1.op.length≤_
     rw[List.length_append,List.length_singleton];omega
    ·show s1.ev.length+2 * s1.op.length≤_;omega
   ·obtain⟨k1,k2,k3⟩:=Q9D t f ((Q3q s1.op (Qo t f u) s1.op.length).toNat+1) (s1.op.length+1) s1
    have hlt:=Q99 s1.op (Qo t f u) s1.op.length
    have hlen:=Q97 t f ((Q3q s1.op (Qo t f u) s1.op.length).toNat+1) (s1.op.length+1) s1 (by omega) (by omega)
    generalize Q1k t f ((Q3q s1.op (Qo t f u) s1.op.length).toNat+1) (s1.op.length+1) s1=z at k1 k2 k3 hlen
    refine⟨?_,?_,fun x hx=>hn x (k3 x (List.mem_of_mem_take hx))⟩
    ·show z.wr.length+(z.op.take _).length≤_
     rw[List.length_take];omega
    ·show ((z.ev++[_])++[_]).length+2 * (z.op.take _).length≤_
     rw[List.length_take]
     simp only[List.length_append,List.length_singleton];omega
  ·exact leafRB _ 1 (by omega) (by omega) (by omega) hn
def Qml (ob:List Ob)(OP EV WR OP2:List AV):Option (AV×List Ob):=match ob with
 | [.box [B,K,M,R,O,.row 1 0,.row 2 0,.row 3 0],_,_,_]=>some (.tup [],[.box [B,K,M,R,O,.row 4 1,.row 2 1,.row 3 1],.row 9 1 false 1 OP,.row 47 3 false 1 EV,.row 49 3 false 1 WR,.row 9 1 false 1 OP2])
 |_=>none
def Qfv (push:Bool)(NM:ByteArray)(rk rf ru:Int)(ra:List AV)(rr re:Bool)(OP EV W1 OP2 EV2 W2:List AV):Nat→List AV→List Ob→Option (AV×List Ob):=fun f _ ob=>match f with
 |36=>some (.val (.string NM),[])
 |38=>some (.agg [.val (.int .i64 rk),.val (.int .i64 rf),.val (.int .i64 ru),.slc 9 ra,.val (.bool rr),.val (.bool re)],[])
 |1000032=>Q8i ob OP EV W1
 |1000060=>Q8i ob OP EV W1
 |1000075=>(match push with
  |true=>Qml ob OP EV2 W2 OP2
  |false=>Q8i ob OP2 EV2 W2)
 |1000086=>Q8i ob OP2 EV2 W2
 |1000089=>Q8i ob OP2 EV2 W2
 |_=>none
def Qf1 (t:Txt)(y:Tok)(s:RSt):Bool:=y.whole&&decide (y.kind=8)&&decide (0<(Qo t y.from_ y.to).length)&&decide (s.op.length<64)
def Qhl:Tok:=⟨0,0,0,false⟩
def QlU (t:Txt)(b:List UInt8)(toks:List Tok)(x:RSt×Int):Nat→List AV→List Ob→Option (AV×List Ob) :=
 let y:=toks[x.2.toNat]?.getD Qhl
 let T:=QR t.r y.from_ y.to
 Qfv (Qf1 t y x.1) (runesBytes (Qo t y.from_ y.to)) T.name.kind T.name.from_ T.name.to (QI T.attrs) T.right T.empty (Qt x.1.op) (QK x.1.ev) (QC (Q8E t y.kind y.from_ y.to y.whole x.1).wr)
  (Qt (Q7o t b x.1 y).op) (QK (Q7o t b x.1 y).ev) (QC (Q7o t b x.1 y).wr)
def Qbl (TK:List AV):Nat→List AV→List Ob→Option (AV×List Ob):=fun f _ _=>match f with
 |35=>some (.slc 4 TK,[])
 |_=>none
def Qlg (OP EV WR:List AV):Nat→List AV→List Ob→Option (AV×List Ob):=fun f _ ob=>match f with
 |1000104=>Q8i ob OP EV WR
 |_=>none
end Go.Proofs.YthbjpdijafccjaaGreat
