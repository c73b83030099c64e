/-
  Parts of the proof, joined: Yg. Conditions: as each theorem says.
-/
import Derived.Test.YthbjpdijafccjaaGreatQE41
import Derived.Test.YthbjpdijafccjaaGreatQE05
set_option maxRecDepth 100000
set_option maxHeartbeats 8000000
namespace Go.Proofs.YthbjpdijafccjaaGreat
open Go.RowKit Go.Lib Tryz
def Q8i (ob:List Ob)(OP EV WR:List AV):Option (AV×List Ob):=match ob with
 | [.box [B,K,M,R,O,.row 1 0,.row 2 0,.row 3 0],_,_,_]=>some (.tup [],[.box [B,K,M,R,O,.row 1 1,.row 2 1,.row 3 1],.row 9 1 false 1 OP,.row 47 3 false 1 EV,.row 49 3 false 1 WR])
 |_=>none
def Qlm (OP EV WR EV2:List AV):Nat→List AV→List Ob→Option (AV×List Ob):=fun f _ ob=>match f with
 |1000017=>Q8i ob OP EV WR
 |1000020=>Q8i ob OP EV2 WR
 |_=>none
def Qlf (OP EV WR:List AV):Nat→List AV→List Ob→Option (AV×List Ob):=fun f _ ob=>match f with
 |1000045=>Q8i ob OP EV WR
 |_=>none
theorem Q9l (t:Txt)(b:List UInt8)(hs:Sml t b)(s:RSt)(hd:s.wr.length≤900000)(he:s.ev.length≤900000)(hs2:s.op.length≤900000)(kind f u:Int)(wh:Bool)(hi:InT t f u)(NM:ByteArray)(h64:64≤s.op.length) :
  BCall prog 39 [.box 0 0,.agg [.val (.int .i64 kind),.val (.int .i64 f),.val (.int .i64 u),.val (.bool wh)],.val (.string NM)] (obR 0 t b s) (.tup []) (obR 1 t b (Q1V t b kind f u (Q2F t 5 f u s))):=by
 obtain⟨hf,hu⟩:=hi.off hs
 have cW:=Q5D t b s (by omega) 5 f u hf hu
 obtain⟨s1,hs1⟩:=exq (Q2F t 5 f u s)
 have cL:=Q5v t b hs s1 (by rw[hs1];show s.ev.length≤_;omega) kind f u wh hi
 have e1:s1.op=s.op:=by rw[hs1];rfl
 have e2:s1.ev=s.ev:=by rw[hs1];rfl
 have e3:(Q1V t b kind f u s1).op=s.op:=e1
 have e4:(Q1V t b kind f u s1).wr=s1.wr:=rfl
 have slen:=Q3Z s.op
 rw[←hs1] at cW ⊢
 unfold obR Q8F at cW cL ⊢
 rw[e1,e2] at cW cL
 rw[e3,e4] at cL ⊢
 obtain⟨L,hL⟩:=Qy s.op
 have hL1:64≤L∧L≤1000000:=by have:=hL.eq;omega
 clear hs1 e1 e2 e3 e4
 refine fnN (cs:=Qlm (Qt s.op) (QK s.ev) (QC s1.wr) (QK (Q1V t b kind f u s1).ev)) func39 rfl (by kernel_rfl) ?_
 intro w0 g0
 generalize hp:std=p,hD:QC s.wr=D,hS:Qt s.op=S,hE:QK s.ev=E,hW:QC s1.wr=W,hE2:QK (Q1V t b kind f u s1).ev=E2,hB:Q2 b=B,hR:Q0 t.r=R,hO:Q8 t.off=O,hK:t.kind=K,hM:t.bom=M
 generalize hT:Q5 p tys (Qlm S E W E2) _ _ _ _=T
 cbv at hT
 subst hT
 simp only[Tree.ok,Q1,S0]
 subst hp hD hS hE hW hE2 hB hR hO hK hM
 have hlen:std.len (Qt s.op)=L:=by show ((Qt s.op).length:Int)=L;rw[slen,hL.eq]
 have hle:std.leI 64 (std.len (Qt s.op))=true:=by rw[hlen];exact decide_eq_true hL1.1
 refine⟨fun _=>⟨cW,cL,[some 0,some 1,some 2,some 3],.tup [],_,rfl,rfl,Nat.le_of_ble_eq_true rfl,rfl,?_,trivial⟩,fun h=>by cases hle.symm.trans h⟩
 simp[Qe]
theorem Q8W (t:Txt)(b:List UInt8)(hs:Sml t b)(s:RSt)(hd:s.wr.length≤900000)(he:s.ev.length≤900000)(kind f u:Int)(wh:Bool)(hi:InT t f u)(nm:List Int)(h64:s.op.length<64) :
  BCall prog 39 [.box 0 0,.agg [.val (.int .i64 kind),.val (.int .i64 f),.val (.int .i64 u),.val (.bool wh)],.val (.string (runesBytes nm))] (obR 0 t b s) (.tup [])
   [.box [.slc 1 (Q2 b),.val (.int .i64 t.kind),.val (.int .i64 t.bom),.slc 1 (Q0 t.r),.slc 1 (Q8 t.off),.row 4 1,.row 2 1,.row 3 1],.row 9 1 false 1 (Qt s.op),.row 47 3 false 1 (QK ((s.ev++[⟨1,0,none⟩])++[⟨2,kind,some (Q13 t b f u)⟩])),.row 49 3 false 1 (QC s.wr),.row 9 1 false 1 (Qt (s.op++[nm]))]:=by
 obtain⟨s1,hs1⟩:=exq (⟨s.op++[nm],s.ev++[⟨1,0,none⟩],s.wr⟩:RSt)
 have cL:=Q5v t b hs s1 (by rw[hs1];show (s.ev++[_]).length≤_;simp;omega) kind f u wh hi
 have e1:s1.op=s.op++[nm]:=by rw[hs1]
 have e2:s1.ev=s.ev++[⟨1,0,none⟩]:=by rw[hs1]
 have e5:s1.wr=s.wr:=by rw[hs1]
 have e3:(Q1V t b kind f u s1).op=s.op++[nm]:=e1
 have e4:(Q1V t b kind f u s1).wr=s.wr:=e5
 have e6:(Q1V t b kind f u s1).ev=(s.ev++[⟨1,0,none⟩])++[⟨2,kind,some (Q13 t b f u)⟩]:=by rw[←e2];rfl
 have slen:=Q3Z s.op
 have elen:=Q69 s.ev
 rw[←e6]
 unfold obR Q8F at cL ⊢
 rw[e1,e2,e5,e3,e4,Q7H,Qcb] at cL
 rw[Qcb]
 obtain⟨NM,hNM⟩:=exq (runesBytes nm)
 have eN:Qt [nm]=[.val (.string NM)]:=by rw[hNM];rfl
 rw[eN] at cL ⊢
 rw[←hNM]
 obtain⟨L,hL⟩:=Qy s.op
 have hL1:L<64∧0≤L:=by have:=hL.eq;omega
 clear hs1 e1 e2 e3 e4 e5 e6 eN hNM
 refine fnN (cs:=Qlf (Qt s.op++[.val (.string NM)]) (QK (Q1V t b kind f u s1).ev) (QC s.wr)) func39 rfl (by kernel_rfl) ?_
 intro w0 g0
 generalize hp:std=p
 generalize hD:QC s.wr=D
 generalize hS2:Qt s.op++[.val (.string NM)]=S2
 generalize hS:Qt s.op=S
 generalize hE2:QK (Q1V t b kind f u s1).ev=E2
 generalize hE:QK s.ev=E
 generalize hB:Q2 b=B
 generalize hR:Q0 t.r=R
 generalize hO:Q8 t.off=O
 generalize hK:t.kind=K
 generalize hM:t.bom=M
 generalize hT:Q5 p tys (Qlf S2 E2 D) _ _ _ _=T
 cbv at hT
 subst hT
 simp only[Tree.ok,Q1,S0]
 subst hp hD hS2 hS hE2 hE hB hR hO hK hM
 have hlen:std.len (Qt s.op)=L:=by show ((Qt s.op).length:Int)=L;rw[slen,hL.eq]
 have hle:std.leI 64 (std.len (Qt s.op))=false:=by rw[hlen];exact decide_eq_false (by omega)
 refine⟨fun h=>(by cases hle.symm.trans h),fun _=>⟨?_,?_,?_,cL,[some 0,some 1,some 2,some 3,some 6],.tup [],_,rfl,rfl,Nat.le_of_ble_eq_true rfl,rfl,?_,trivial⟩⟩
 ·show (QK s.ev).length+1≤1000000000
  omega
 ·show 0+(Qt s.op).length≤1000000000
  omega
 ·show ([]++Qt s.op).length+1≤1000000000
  rw[List.nil_append];omega
 ·simp[Qe]
theorem Q8v {t:Txt}{f:Int}{k:Nat}{x:RSt}(h:k<x.op.length):Q1k t f k (x.op.length+1) x=Q1k t f k ((Q2j t f x).op.length+1) (Q2j t f x):=by
 have e:(Q2j t f x).op.length=x.op.length-1:=by show (x.op.take (x.op.length-1)).length=_;rw[List.length_take];omega
 rw[e]
 show (if k<x.op.length then _ else _)=_
 rw[if_pos h,show x.op.length-1+1=x.op.length by omega]
theorem Qaa {t:Txt}{f:Int}{k:Nat}{x:RSt}(h:¬ k<x.op.length):Q1k t f k (x.op.length+1) x=x:=by
 show (if k<x.op.length then _ else _)=_
 rw[if_neg h]
theorem Q99 (op:List (List Int))(nm:List Int):∀ k,-1≤Q3q op nm k∧Q3q op nm k<k
 |0=>⟨Int.le_refl _,by show (-1:Int)<0;decide⟩
 |k+1=>by
  unfold Q3q
  have:=Q99 op nm k
  split
  ·omega
  ·omega
def QeK (r:Int)(OP EV WR W1 E2 OPf EVf WRf:List AV):Nat→List AV→List Ob→Option (AV×List Ob):=fun f _ ob=>match f with
 |1000009=>(match ob with
  | [.box [B,K,M,R,O,.row 1 0,.row 2 0,.row 3 0],_,_,_]=>some (.val (.int .i64 r),[.box [B,K,M,R,O,.row 1 1,.row 2 1,.row 3 1],.row 9 1 false 1 OP,.row 47 3 false 1 EV,.row 49 3 false 1 WR])
  |_=>none)
 |1000017=>Q8i ob OP EV W1
 |1000020=>Q8i ob OP E2 W1
 |1000035=>Q8i ob OPf EVf WRf
 |_=>none
def Qli (OP EV WR:List AV):Nat→List AV→List Ob→Option (AV×List Ob):=fun f _ ob=>match f with
 |1000032=>Q8i ob OP EV WR
 |_=>none
structure RSm (s:RSt):Prop where
 w:s.wr.length+s.op.length≤900000
 e:s.ev.length+2 * s.op.length≤900000
theorem RSm.lack {s:RSt}(h:RSm s)(t:Txt)(a:Int)(hs:1≤s.op.length):RSm (Q2j t a s):=by
 have h1:=h.w
 have h2:=h.e
 refine⟨?_,?_⟩
 ·show (s.wr++[_]).length+(s.op.take (s.op.length-1)).length≤_
  rw[List.length_append,List.length_take,List.length_singleton];omega
 ·show (s.ev++[_,_]).length+2 * (s.op.take (s.op.length-1)).length≤_
  rw[List.length_append,List.length_take,List.length_cons,List.length_singleton];omega
theorem Qhg (t:Txt)(b:List UInt8)(hs:Sml t b)(s:RSt)(hm:RSm s)(hw:∀ x∈s.op,∀ r∈x,0<Qw r)(kind f u:Int)(wh:Bool)(hi:InT t f u)(hnm:∀ r∈Qo t f u,0<Qw r) :
  BCall prog 40 [.box 0 0,.agg [.val (.int .i64 kind),.val (.int .i64 f),.val (.int .i64 u),.val (.bool wh)],.val (.string (runesBytes (Qo t f u)))] (obR 0 t b s) (.tup []) (obR 1 t b (QcW t b kind f u s)):=by
 obtain⟨hf,hu⟩:=hi.off hs
 have hmw:=hm.w
 have hme:=hm.e
 have cI:=QdT t b s hw (by omega) (Qo t f u) hnm
 have hr:=Q99 s.op (Qo t f u) s.op.length
 obtain⟨r,hrE⟩:=exq (Q3q s.op (Qo t f u) s.op.length)
 rw[←hrE] at cI hr
 obtain⟨NM,hNM⟩:=exq (runesBytes (Qo t f u))
 rw[←hNM] at cI ⊢
 have cW:=Q5D t b s (by omega) 3 f u hf hu
 obtain⟨s1,hs1⟩:=exq (Q2F t 3 f u s)
 have cL:=Q5v t b hs s1 (by rw[hs1];show s.ev.length≤_;omega) kind f u wh hi
 have e1:s1.op=s.op:=by rw[hs1];rfl
 have e2:s1.ev=s.ev:=by rw[hs1];rfl
 have e3:(Q1V t b kind f u s1).op=s.op:=e1
 have e4:(Q1V t b kind f u s1).wr=s1.wr:=rfl
 obtain⟨S1,hS1⟩:=exq (Q1k t f (r.toNat+1) (s.op.length+1) s)
 have hE:QcW t b kind f u s=if r<0 then Q1V t b kind f u s1 else ⟨(Q1V t b kind f u S1).op.take r.toNat,(Q1V t b kind f u S1).ev++[⟨3,0,none⟩],(Q1V t b kind f u S1).wr⟩:=by
  rw[hs1,hS1,hrE];rfl
 rw[hE]
 rw[←hs1] at cW
 clear hE hrE hNM hnm hs1
 have slen:=Q3Z s.op
 unfold obR Q8F at cI cW cL ⊢
 rw[e1,e2] at cW cL
 rw[e3,e4] at cL
 obtain⟨L,hL⟩:=Qy s.op
 have hL1:0≤L∧L≤900000:=by have:=hL.eq;omega
 have hrL:r<L:=by have:=hL.eq;omega
 refine fnN (cs:=QeK r (Qt s.op) (QK s.ev) (QC s.wr) (QC s1.wr) (QK (Q1V t b kind f u s1).ev) (Qt S1.op) (QK (Q1V t b kind f u S1).ev) (QC S1.wr)) func40 rfl (by kernel_rfl) ?_
 intro w0 g0
 generalize hp:std=p,hD:QC s.wr=D,hS:Qt s.op=S,hE:QK s.ev=E,hW1:QC s1.wr=W1,hE2:QK (Q1V t b kind f u s1).ev=E2,hSf:Qt S1.op=Sf,hEf:QK (Q1V t b kind f u S1).ev=Ef,hWf:QC S1.wr=Wf,hB:Q2 b=B,hR:Q0 t.r=R,hO:Q8 t.off=O,hK:t.kind=K,hM:t.bom=M
 generalize hT:Q5 p tys (QeK r S E D W1 E2 Sf Ef Wf) _ _ _ _=T
 cbv at hT
 subst hT
 simp only[Tree.ok,Q1,S0]
 subst hp hD hS hE hW1 hE2 hSf hEf hWf hB hR hO hK hM
 refine⟨cI,fun hlt=>?_,fun hge=>?_⟩
 ·have hlt:r<0:=of_decide_eq_true hlt
  rw[if_pos hlt,e3,e4]
  refine⟨cW,cL,[some 0,some 1,some 2,some 3],.tup [],_,rfl,rfl,Nat.le_of_ble_eq_true rfl,rfl,?_,trivial⟩
  simp[Qe]
 have hge:¬ r<0:=of_decide_eq_false hge
 rw[if_neg hge]
 obtain⟨k,hk⟩:=exq r.toNat
 rw[←hk] at hS1 ⊢
 have hrk:r=(k:Int):=by omega
 clear cI cW cL
 refine Q4F (cs:=(fun x:RSt=>Qli (Qt (Q2j t f x).op) (QK (Q2j t f x).ev) (QC (Q2j t f x).wr))) (ord:=fun _=>.nil) Q6O (by kernel_rfl) (by kernel_rfl) (by kernel_rfl) (X:=RSt) (fun x=>⟨[(0,.box 0 0),(4,.box 4 0),(6,.val (.int .i64 r))],[.box [.slc 1 (Q2 b),.val (.int .i64 t.kind),.val (.int .i64 t.bom),.slc 1 (Q0 t.r),.slc 1 (Q8 t.off),.row 1 1,.row 2 1,.row 3 1],.row 9 1 false 1 (Qt x.op),.row 47 3 false 1 (QK x.ev),.row 49 3 false 1 (QC x.wr),.box [.val (.int .i64 kind),.val (.int .i64 f),.val (.int .i64 u),.val (.bool wh)]]⟩) (fun x=>RSm x∧k+1≤x.op.length∧Q1k t f (k+1) (x.op.length+1) x=S1) (fun x=>x.op.length) s ?_ ?_ ?_
 ·exact⟨hm,by have:=hL.eq;omega,hS1.symm⟩
 ·exact⟨[some 0,some 1,some 2,some 3,some 4],_,rfl,by simp[Qe,lk,std]⟩
 ·rintro x ⟨hx0,hx1,hx2⟩
  have xw:=hx0.w
  have xe:=hx0.e
  have xlen:=Q3Z x.op
  obtain⟨LX,hLX⟩:=Qy x.op
  have hX1:1≤LX∧LX≤900000:=by have:=hLX.eq;omega
  have cK:1≤x.op.length→BCall prog 42 [.box 0 0,.val (.int .i64 f)] (obR 0 t b x) (.tup []) (obR 1 t b (Q2j t f x)):=fun h=>Qay t b x (by omega) (by omega) f hf h (by omega)
  obtain⟨y,hy⟩:=exq (Q2j t f x)
  have hy1:y.op.length=x.op.length-1:=by rw[hy];show (x.op.take (x.op.length-1)).length=_;rw[List.length_take];omega
  have hy2:RSm y:=by rw[hy];exact hx0.lack t f (by omega)
  have hstep:k+1<x.op.length→Q1k t f (k+1) (y.op.length+1) y=S1:=fun h=>by rw[hy,←Q8v h];exact hx2
  rw[←hy] at cK ⊢
  clear hy
  unfold obR Q8F at cK
  generalize hp:std=p,hD:QC x.wr=D,hS:Qt x.op=S,hE:QK x.ev=E,hS':Qt y.op=S',hE':QK y.ev=E',hW':QC y.wr=W',hB:Q2 b=B,hR:Q0 t.r=R,hO:Q8 t.off=O,hK:t.kind=K,hM:t.bom=M
  generalize hT:Q5 p tys (Qli S' E' W') _ _ _ _=T
  cbv at hT
  subst hT
  simp only[Tree.ok,Q1,S0]
  subst hp hD hS hE hS' hE' hW' hB hR hO hK hM
  have hlx:std.len (Qt x.op)=LX:=by show ((Qt x.op).length:Int)=LX;rw[xlen,hLX.eq]
  refine⟨?_,fun hgt=>?_,fun hle=>?_⟩
  ·show (-9223372036854775808:Int)≤r+1∧r+1≤(9223372036854775807:Int)
   omega
  ·have hgt:r+1<std.len (Qt x.op):=of_decide_eq_true hgt
   rw[hlx] at hgt
   have hk1:k+1<x.op.length:=by have:=hLX.eq;omega
   exact⟨cK (by omega),y,⟨hy2,by omega,hstep hk1⟩,by omega,[some 0,some 1,some 2,some 3,some 4],_,rfl,by simp[Qe,lk,std]⟩
  ·have hle:¬ r+1<std.len (Qt x.op):=of_decide_eq_false hle
   rw[hlx] at hle
   have hk1:¬ k+1<x.op.length:=by have:=hLX.eq;omega
   have hx3:x=S1:=by rw[←hx2,Qaa hk1]
   have hop:x.op.length=k+1:=by omega
   have cL:=Q5v t b hs x (by omega) kind f u wh hi
   rw[←hx3]
   obtain⟨z,hz⟩:=exq (Q1V t b kind f u x)
   have z1:z.op=x.op:=by rw[hz];rfl
   have z2:z.wr=x.wr:=by rw[hz];rfl
   have z3:z.ev.length=x.ev.length+1:=by rw[hz];show (x.ev++[_]).length=_;simp
   rw[←hz] at cL ⊢
   unfold obR Q8F at cL
   rw[z1,z2] at cL ⊢
   have zlen:=Q69 z.ev
   have eo:std.cut (Qt x.op) 0 r=Qt (x.op.take k):=by
    show ((Qt x.op).drop 0).take (r-0).toNat=Qt (x.op.take k)
    rw[List.drop_zero,show (r-0).toNat=k by omega]
    simp[Qt,List.map_take]
   clear hle hlx hk1 hx2 hx1 hstep hy1 hy2 cK hx3 hz z1 z2 xlen
   rw[if_pos trivial]
   generalize hp:std=p,hD:QC x.wr=D,hS:Qt x.op=S,hE:QK x.ev=E,hEf:QK z.ev=Ef,hB:Q2 b=B,hR:Q0 t.r=R,hO:Q8 t.off=O,hK:t.kind=K,hM:t.bom=M
   generalize hT:Q5 p tys (QeK _ _ _ _ _ _ _ _ _) _ _ _ _=T
   cbv at hT
   subst hT
   simp only[Tree.ok,Q1,S0]
   subst hp hD hS hE hEf hB hR hO hK hM
   refine⟨cL,?_,?_,[some 0,some 1,some 2,some 3],.tup [],_,rfl,rfl,Nat.le_of_ble_eq_true rfl,rfl,?_,trivial⟩
   ·show (QK z.ev).length+1≤1000000000
    omega
   ·show 0≤(0:Int)∧0≤r∧r≤((Qt x.op).length:Int)
    rw[Q3Z];omega
   ·simp[Qe]
    exact⟨eo,by rw[Q7H];rfl⟩
end Go.Proofs.YthbjpdijafccjaaGreat
