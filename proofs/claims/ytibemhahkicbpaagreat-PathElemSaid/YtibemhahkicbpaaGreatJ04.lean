/- Lemmas, conditions told -/
import Derived.Test.YtibemhahkicbpaaGreatJ02
import Derived.Deep.MidRow
set_option maxRecDepth 99999
set_option maxHeartbeats 0
set_option linter.unusedSimpArgs false
set_option linter.unusedVariables false
namespace Go.Proofs.YtibemhahkicbpaaGreat
open Lib(hid)
open Nat(le_refl)
open Go.RowKit Go.Lib
section
open Tryz
theorem QK{w W:World}{b o n:Nat}(h:w.there b o n)(hb:Below w.heap.size w W)(hlt:b<w.heap.size):W.there b o n:=fun j hj=>by
 obtain⟨h1,h2⟩:=h j hj;refine⟨?_,?_⟩
 ·rw[World.cell?_of_block (hb.block _ hlt)];exact h1
 ·rw[World.frozen?_of_block (hb.block _ hlt)];exact h2
theorem Q2K(w:World)(cs:Array Value)(t:TypeId):(w.alloc (.cells cs t)).there w.heap.size 0 cs.size:=fun j hj=>by
 refine⟨?_,by simp⟩
 rw[World.cell?_alloc_at _ _ _ _ rfl];simp[hj]
theorem Qf{B:Nat}{w0 w:World}(h:Below B w0 w)(b:Nat)(hb:B<=b)(vs:List Value)(o:Nat):Below B w0 (w.setCells b o vs):=by
 induction vs generalizing o w with
 |nil=>exact h
 |cons v r ih=>exact ih (h.setCell hb _) (o+1)
theorem QF{P:Program}{T:TypeId}{d:TypeDesc}(W:World)(B:Nat)(vs:List Value)(ht:W.there B 0 vs.length)(hi:(P.info? T).map (·.size)=some vs.length)
  (hu:P.underlying T=some d) (hd:d.isRow=true):(loadVar T ⟨B,0,none⟩).run P (W.setCells B 0 vs)=.ok (.agg vs.toArray) (W.setCells B 0 vs) :=
 run_loadVar_mid (P:=P) (W.setCells B 0 vs) B 0 T vs d (World.rangeAt_setCells_same W B 0 vs ht) hu hd hi
theorem Q7{w:World}{b n:Nat}(h:w.there b 0 n)(i:Nat)(hi:i<n):(∃v,w.cell? ⟨b,i,none⟩=some v)/\w.frozen? ⟨b,i,none⟩=false:=by
 have:=h i hi
 rw[Nat.zero_add]at this;exact⟨Option.isSome_iff_exists.1 this.1,this.2⟩
theorem Qw{P:Program}{fn:Func}{t:Tmp}{T:TypeId}{a:Addr}{v:Value}{w:World}(h:fn.results=#[.cell t T])(tmps:Array Value)
  (ha:tmps.getD t undef=.pointer (some a)) (hl:(loadVar T a).run P w=.ok v w):(results fn tmps).run P w=.ok v w:=by
 have ha':tmps[t]?.getD undef=.pointer (some a):=by simpa using ha
 simp[results,h,ha',asAddr,hl]
theorem Q4e{P:Program}{fn:Func}{t u:Tmp}{T:TypeId}{a:Addr}{v:Value}{w:World}(h:fn.results=#[.cell t T,.tmp u])(tmps:Array Value)
  (ha:tmps.getD t undef=.pointer (some a)) (hl:(loadVar T a).run P w=.ok v w):(results fn tmps).run P w=.ok (.tuple #[v,tmps.getD u undef]) w:=by
 have ha':tmps[t]?.getD undef=.pointer (some a):=by simpa using ha
 simp[results,h,ha',asAddr,hl]
theorem Qgr(r:Int)(w:World):Calls prog 211 #[.int .i32 r] w fun e w'=>e=.returned (.bool (Q6n r))/\w=w':=by
 have HD:=hid (Qcr r w);generalize (Q5u r).1=d1 at HD;have HQ:Hid (Q6n r=(Q5u r).2):=rfl;generalize (Q5u r).2=d2 at HD HQ;go_enter func211,ntmps211
 go_wp2_with fail
 refine HD.out.mono ?_;rintro e w' ⟨rfl,rfl⟩;go_wp2
 go_ret
 exact⟨QR HQ.out.symm,rfl⟩
theorem QjK(r:Int)(w:World):Calls prog 212 #[.int .i32 r] w fun e w'=>e=.returned (.bool (Q7w r))/\w=w':=by
 have HD:=hid (QmW r w);generalize (QaY r).1=d1 at HD;have HQ:Hid (Q7w r=(QaY r).2):=rfl;generalize (QaY r).2=d2 at HD HQ;go_enter func212,ntmps212
 go_wp2_with fail
 refine HD.out.mono ?_;rintro e w' ⟨rfl,rfl⟩;go_wp2
 go_ret
 exact⟨QR HQ.out.symm,rfl⟩
theorem Qj3(w:World):Q7L prog 211 #[] Q6n w:=fun W r _=>(Qgr r W).mono fun _ _ ⟨h1,h2⟩=>⟨h1,h2 ▸ Below.refl _ _⟩
theorem Qnp(w:World):Q7L prog 212 #[] Q7w w:=fun W r _=>(QjK r W).mono fun _ _ ⟨h1,h2⟩=>⟨h1,h2 ▸ Below.refl _ _⟩
theorem QiV:∀args w,(callFunc 211 args).run prog w=.ok (.enter 211 args) w:=enters_of func211 (by kernel_rfl) rfl
theorem QmI:∀args w,(callFunc 212 args).run prog w=.ok (.enter 212 args) w:=enters_of func212 (by kernel_rfl) rfl
theorem Q8L(S:Nat->Prop)(A:Option Addr)(n c:Nat)(l:List Int)(p m:Nat)(w:World)(hr:Rd w S 1 A n c (rc l))(hp:p<=2000000000)(hm:m<=2000000000) :
  Calls prog 213 #[.slice A n c,.int .i64 p,.int .i64 m] w fun e w'=>e=.returned (.bool (Q1y l p m))/\w=w':=by
 obtain rfl:=hr.rlen;have hle:=hr.le;have hmx:c<=9223372036854775807:=hr.max;by_cases h0:0<m
 ·have h0i:(m:Int) > 0:=by omega
  by_cases hlt:p+m<l.length
  ·have hlti:(p:Int)+(m:Int)<(l.length:Int):=by omega
   obtain⟨b,o,rfl,hc0⟩:=hr.rune hlt
   have HE:Hid (Q1y l p m=(l[p+m] == 59)):=by
    rw[Hid,Q1y,decide_eq_true h0,List.getElem?_eq_getElem hlt,Bool.true_and];rfl
   clear hr;generalize l[p+m]=r at hc0 HE;generalize Q1y l p m=q at HE ⊢;go_enter func213,ntmps213
   go_wp2
   go_ret
   exact⟨QR HE.out.symm,rfl⟩
  ·have hlti:¬(p:Int)+(m:Int)<(l.length:Int):=by omega
   have HE:Hid (Q1y l p m=false):=by rw[Hid,Q1y,decide_eq_true h0,List.getElem?_eq_none (by omega)];rfl
   clear hr;go_enter func213,ntmps213
   go_wp2
   go_ret
   exact⟨QR HE.out.symm,rfl⟩
 ·have h0i:¬(m:Int) > 0:=by omega
  have HE:Hid (Q1y l p m=false):=by rw[Hid,Q1y,decide_eq_false h0];rfl
  clear hr;go_enter func213,ntmps213
  go_wp2
  go_ret
  exact⟨QR HE.out.symm,rfl⟩
def Q25(t:Nat×Nat×Bool)(k:Nat):Value:=.agg #[.int .i64 t.1,.int .i64 k,.int .i64 t.2.1,.bool t.2.2]
theorem QjC(p:Int->Bool)(l:List Int)(k j:Nat):Q2X p l ((min (k+j) l.length:Nat):Int)=((l.drop (k+j)).takeWhile p).length:=by
 rw[Q2X,if_neg (by omega),Int.toNat_natCast]
 by_cases h:k+j<=l.length
 ·rw[Nat.min_eq_left h]
 ·rw[Nat.min_eq_right (by omega),List.drop_eq_nil_of_le (le_refl _),List.drop_eq_nil_of_le (by omega)]
theorem QmC(S:Nat->Prop)(A:Option Addr)(n c:Nat)(l:List Int)(k:Nat)(w:World)(hr:Rd w S 1 A n c (rc l))(hk:k<l.length)(hl9:l.length<=1000000000) :
  Calls prog 175 #[.slice A n c,.int .i64 k] w fun e w'=>e=.returned (Q25 (Q1n l k) k)/\Below w.heap.size w w':=by
 obtain rfl:=hr.rlen;have hle:=hr.le;have hmx:c<=9223372036854775807:=hr.max;have HR:=hid hr
 have HRN:∀W,Below w.heap.size w W->Hid (Calls prog 176 #[.slice A l.length c,.int .i64 (min (k+2) l.length:Nat),.func (.func 211) #[] #[]] W fun e w'=>e=.returned (.int .i64 (Q5o l k))/\Below W.heap.size W w'):=fun W h=>by
  have:=Q8g S A l.length c l (min (k+2) l.length:Nat) 211 #[] Q6n W QiV (HR.out.below h) (Qj3 W)
  rwa [QjC]at this
 have HRX:∀W,Below w.heap.size w W->Hid (Calls prog 176 #[.slice A l.length c,.int .i64 (min (k+3) l.length:Nat),.func (.func 212) #[] #[]] W fun e w'=>e=.returned (.int .i64 (Q62 l k))/\Below W.heap.size W w'):=fun W h=>by
  have:=Q8g S A l.length c l (min (k+3) l.length:Nat) 212 #[] Q7w W QmI (HR.out.below h) (Qnp W)
  rwa [QjC]at this
 have hm2:∀ts t W,(Builtin.min_ ts t #[.int .i64 ((k:Int)+2),.int .i64 (l.length:Int)]).run prog W=.ok (.int .i64 (min (k+2) l.length:Nat)) W:=fun ts t W=>by
  rw[run_min_int2];congr 2
  split<;>omega
 have hm3:∀ts t W,(Builtin.min_ ts t #[.int .i64 ((k:Int)+3),.int .i64 (l.length:Int)]).run prog W=.ok (.int .i64 (min (k+3) l.length:Nat)) W:=fun ts t W=>by
  rw[run_min_int2];congr 2
  split<;>omega
 have HS1:∀W,Below w.heap.size w W->Hid (Calls prog 185 #[.slice A l.length c,.int .i64 k,.string ⟨#[38,35,120]⟩] W fun e w'=>e=.returned (.bool (Q6 l k [38,35,120]))/\Below W.heap.size W w') :=
  fun W h=>Q24 S A l.length c l k ⟨#[38,35,120]⟩ W (HR.out.below h) (by omega) hl9 (by decide)
 have HS2:∀W,Below w.heap.size w W->Hid (Calls prog 185 #[.slice A l.length c,.int .i64 k,.string ⟨#[38,35]⟩] W fun e w'=>e=.returned (.bool (Q6 l k [38,35]))/\Below W.heap.size W w') :=
  fun W h=>Q24 S A l.length c l k ⟨#[38,35]⟩ W (HR.out.below h) (by omega) hl9 (by decide)
 have hdn:Q5o l k<=1000000000:=by have:=(List.takeWhile_sublist Q6n (l:=l.drop (k+2))).length_le;rw[List.length_drop]at this;unfold Q5o;omega
 have hxn:Q62 l k<=1000000000:=by have:=(List.takeWhile_sublist Q7w (l:=l.drop (k+3))).length_le;rw[List.length_drop]at this;unfold Q62;omega
 have hln:Qj l (k+1)<=1000000000:=by
  rw[QfB l k 1];unfold Qj;split
  ·omega
  ·split
   ·have:=(List.takeWhile_sublist Qq (l:=(l.drop k).drop 1)).length_le
    simp only[List.length_drop]at this;omega
   ·omega
 have HLD:∀W,Below w.heap.size w W->Hid (Calls prog 183 #[.slice A l.length c,.int .i64 ((k:Int)+1)] W fun e w'=>e=.returned (.int .i64 (Qj l (k+1)))/\Below W.heap.size W w'):=fun W h=>by
  rw[show((k:Int)+1)=((k+1:Nat):Int) by omega]
  exact Q78 S A l.length c l (k+1) W (HR.out.below h) (by omega)
 have HE1:∀W,Below w.heap.size w W->Hid (Calls prog 213 #[.slice A l.length c,.int .i64 ((k:Int)+3),.int .i64 (Q62 l k)] W fun e w'=>e=.returned (.bool (Q1y l (k+3) (Q62 l k)))/\W=w'):=fun W h=>by
  rw[show((k:Int)+3)=((k+3:Nat):Int) by omega]
  exact Q8L S A l.length c l (k+3) (Q62 l k) W (HR.out.below h) (by omega) (by omega)
 have HE2:∀W,Below w.heap.size w W->Hid (Calls prog 213 #[.slice A l.length c,.int .i64 ((k:Int)+2),.int .i64 (Q5o l k)] W fun e w'=>e=.returned (.bool (Q1y l (k+2) (Q5o l k)))/\W=w'):=fun W h=>by
  rw[show((k:Int)+2)=((k+2:Nat):Int) by omega]
  exact Q8L S A l.length c l (k+2) (Q5o l k) W (HR.out.below h) (by omega) (by omega)
 have HE3:∀W,Below w.heap.size w W->Hid (Calls prog 213 #[.slice A l.length c,.int .i64 ((k:Int)+1),.int .i64 (Qj l (k+1))] W fun e w'=>e=.returned (.bool (Q1y l (k+1) (Qj l (k+1))))/\W=w'):=fun W h=>by
  rw[show((k:Int)+1)=((k+1:Nat):Int) by omega]
  exact Q8L S A l.length c l (k+1) (Qj l (k+1)) W (HR.out.below h) (by omega) (by omega)
 have HREF:Hid (Q1n l k=if Q6 l k [38,35,120]&&Q1y l (k+3) (Q62 l k)then(3,k+4+Q62 l k,true)
  else if Q6 l k [38,35]&&Q1y l (k+2) (Q5o l k)then(3,k+3+Q5o l k,true)
  else if Q1y l (k+1) (Qj l (k+1))then(2,k+2+Qj l (k+1),true)else(11,k+1,false)):=rfl
 generalize Q6 l k [38,35,120]=s1 at HS1 HREF;generalize Q6 l k [38,35]=s2 at HS2 HREF;generalize Q1y l (k+3) (Q62 l k)=e1 at HE1 HREF;generalize Q1y l (k+2) (Q5o l k)=e2 at HE2 HREF;generalize Q1y l (k+1) (Qj l (k+1))=e3 at HE3 HREF;generalize Q62 l k=x at HRX HE1 HREF hxn;generalize Q5o l k=nd at HRN HE2 HREF hdn;generalize Qj l (k+1)=d at HLD HE3 HREF hln;generalize min (k+2) l.length=m2 at HRN hm2;generalize min (k+3) l.length=m3 at HRX hm3;clear hr;go_enter func175,ntmps175
 go_wp2_with fail
 have HTH0:=hid (Q2K w #[.int .i64 0,.int .i64 0,.int .i64 0,.bool false] 185);have HB0:=hid (ba w (.cells #[.int .i64 0,.int .i64 0,.int .i64 0,.bool false] 185));have HSZ:Hid (w.heap.size+1<=(w.alloc (.cells #[.int .i64 0,.int .i64 0,.int .i64 0,.bool false] 185)).heap.size):=by simp[Hid]
 generalize w.alloc (.cells #[.int .i64 0,.int .i64 0,.int .i64 0,.bool false] 185)=W0 at HTH0 HB0 HSZ;refine(HRN _ HB0.out).out.mono ?_;rintro e w1 ⟨rfl,hb1⟩;have HB1:=hid (HB0.out.trans (hb1.mono HB0.out.size));have HTH1:=hid (QK HTH0.out hb1 (by have:=HSZ.out;omega))
 have HLT:Hid (w.heap.size<w1.heap.size):=by have:=HSZ.out;have:=hb1.size;show _<_;omega
 clear hb1;go_wp2_with fail
 refine(HRX _ HB1.out).out.mono ?_;rintro e w2 ⟨rfl,hb2⟩;have HB2:=hid (HB1.out.trans (hb2.mono HB1.out.size));have HTH2:=hid (QK HTH1.out hb2 HLT.out);have HLT:=hid (Nat.lt_of_lt_of_le HLT.out hb2.size);clear hb2;go_wp2_with fail
 refine(HLD _ HB2.out).out.mono ?_;rintro e w3 ⟨rfl,hb3⟩;have HB3:=hid (HB2.out.trans (hb3.mono HB2.out.size));have HTH3:=hid (QK HTH2.out hb3 HLT.out);have HLT:=hid (Nat.lt_of_lt_of_le HLT.out hb3.size);clear hb3;go_wp2_with fail
 refine(HS1 _ HB3.out).out.mono ?_;rintro e w4 ⟨rfl,hb4⟩;have HB4:=hid (HB3.out.trans (hb4.mono HB3.out.size));have HTH4:=hid (QK HTH3.out hb4 HLT.out);have HLT:=hid (Nat.lt_of_lt_of_le HLT.out hb4.size);clear hb4 HB0 HB1 HB2 HB3 HTH0 HTH1 HTH2 HTH3 HRN HRX HLD HS1;cases s1 with
 |true =>
  go_wp2_with fail
  refine(HE1 _ HB4.out).out.mono ?_;rintro e wx ⟨rfl,rfl⟩;cases e1 with
  |true =>
   have HV:Hid (Q25 (Q1n l k) k=.agg #[.int .i64 3,.int .i64 k,.int .i64 ((k:Int)+4+(x:Int)),.bool true]):=by rw[Hid,HREF.out];simp[Q25]
   have HL9:=hid (QF (P:=prog) (T:=185) w4 w.heap.size [.int .i64 3,.int .i64 k,.int .i64 ((k:Int)+4+(x:Int)),.bool true] HTH4.out (by kernel_rfl) underlying185 rfl)
   have HB9:=hid (Qf HB4.out w.heap.size (le_refl _) [.int .i64 3,.int .i64 k,.int .i64 ((k:Int)+4+(x:Int)),.bool true] 0);obtain⟨⟨z0,hz0⟩,hf0⟩:=Q7 HTH4.out 0 (by decide)
   obtain⟨⟨z1,hz1⟩,hf1⟩:=Q7 HTH4.out 1 (by decide)
   obtain⟨⟨z2,hz2⟩,hf2⟩:=Q7 HTH4.out 2 (by decide)
   obtain⟨⟨z3,hz3⟩,hf3⟩:=Q7 HTH4.out 3 (by decide)
   go_wp2
   refine bodyPost_ret (Qw rfl _ rfl HL9.out) rfl ?_;rw[HV.out];exact⟨rfl,HB9.out⟩
  |false =>
   go_wp2_with fail
   refine(HS2 _ HB4.out).out.mono ?_;rintro e w5 ⟨rfl,hb5⟩;have HB5:=hid (HB4.out.trans (hb5.mono HB4.out.size));have HTH5:=hid (QK HTH4.out hb5 HLT.out);clear hb5;cases s2 with
   |true =>
    go_wp2_with fail
    refine(HE2 _ HB5.out).out.mono ?_;rintro e wx ⟨rfl,rfl⟩;cases e2 with
    |true =>
     have HV:Hid (Q25 (Q1n l k) k=.agg #[.int .i64 3,.int .i64 k,.int .i64 ((k:Int)+3+(nd:Int)),.bool true]):=by rw[Hid,HREF.out];simp[Q25]
     have HL9:=hid (QF (P:=prog) (T:=185) w5 w.heap.size [.int .i64 3,.int .i64 k,.int .i64 ((k:Int)+3+(nd:Int)),.bool true] HTH5.out (by kernel_rfl) underlying185 rfl)
     have HB9:=hid (Qf HB5.out w.heap.size (le_refl _) [.int .i64 3,.int .i64 k,.int .i64 ((k:Int)+3+(nd:Int)),.bool true] 0);obtain⟨⟨z0,hz0⟩,hf0⟩:=Q7 HTH5.out 0 (by decide)
     obtain⟨⟨z1,hz1⟩,hf1⟩:=Q7 HTH5.out 1 (by decide)
     obtain⟨⟨z2,hz2⟩,hf2⟩:=Q7 HTH5.out 2 (by decide)
     obtain⟨⟨z3,hz3⟩,hf3⟩:=Q7 HTH5.out 3 (by decide)
     go_wp2
     refine bodyPost_ret (Qw rfl _ rfl HL9.out) rfl ?_;rw[HV.out];exact⟨rfl,HB9.out⟩
    |false =>
     go_wp2_with fail
     refine(HE3 _ HB5.out).out.mono ?_;rintro e wx ⟨rfl,rfl⟩;cases e3 with
     |true =>
      have HV:Hid (Q25 (Q1n l k) k=.agg #[.int .i64 2,.int .i64 k,.int .i64 ((k:Int)+2+(d:Int)),.bool true]):=by rw[Hid,HREF.out];simp[Q25]
      have HL9:=hid (QF (P:=prog) (T:=185) w5 w.heap.size [.int .i64 2,.int .i64 k,.int .i64 ((k:Int)+2+(d:Int)),.bool true] HTH5.out (by kernel_rfl) underlying185 rfl)
      have HB9:=hid (Qf HB5.out w.heap.size (le_refl _) [.int .i64 2,.int .i64 k,.int .i64 ((k:Int)+2+(d:Int)),.bool true] 0);obtain⟨⟨z0,hz0⟩,hf0⟩:=Q7 HTH5.out 0 (by decide)
      obtain⟨⟨z1,hz1⟩,hf1⟩:=Q7 HTH5.out 1 (by decide)
      obtain⟨⟨z2,hz2⟩,hf2⟩:=Q7 HTH5.out 2 (by decide)
      obtain⟨⟨z3,hz3⟩,hf3⟩:=Q7 HTH5.out 3 (by decide)
      go_wp2
      refine bodyPost_ret (Qw rfl _ rfl HL9.out) rfl ?_;rw[HV.out];exact⟨rfl,HB9.out⟩
     |false =>
      have HV:Hid (Q25 (Q1n l k) k=.agg #[.int .i64 11,.int .i64 k,.int .i64 ((k:Int)+1),.bool false]):=by rw[Hid,HREF.out];simp[Q25]
      have HL9:=hid (QF (P:=prog) (T:=185) w5 w.heap.size [.int .i64 11,.int .i64 k,.int .i64 ((k:Int)+1),.bool false] HTH5.out (by kernel_rfl) underlying185 rfl)
      have HB9:=hid (Qf HB5.out w.heap.size (le_refl _) [.int .i64 11,.int .i64 k,.int .i64 ((k:Int)+1),.bool false] 0);obtain⟨⟨z0,hz0⟩,hf0⟩:=Q7 HTH5.out 0 (by decide)
      obtain⟨⟨z1,hz1⟩,hf1⟩:=Q7 HTH5.out 1 (by decide)
      obtain⟨⟨z2,hz2⟩,hf2⟩:=Q7 HTH5.out 2 (by decide)
      obtain⟨⟨z3,hz3⟩,hf3⟩:=Q7 HTH5.out 3 (by decide)
      go_wp2
      refine bodyPost_ret (Qw rfl _ rfl HL9.out) rfl ?_;rw[HV.out];exact⟨rfl,HB9.out⟩
   |false =>
    go_wp2_with fail
    refine(HE3 _ HB5.out).out.mono ?_;rintro e wx ⟨rfl,rfl⟩;cases e3 with
    |true =>
     have HV:Hid (Q25 (Q1n l k) k=.agg #[.int .i64 2,.int .i64 k,.int .i64 ((k:Int)+2+(d:Int)),.bool true]):=by rw[Hid,HREF.out];simp[Q25]
     have HL9:=hid (QF (P:=prog) (T:=185) w5 w.heap.size [.int .i64 2,.int .i64 k,.int .i64 ((k:Int)+2+(d:Int)),.bool true] HTH5.out (by kernel_rfl) underlying185 rfl)
     have HB9:=hid (Qf HB5.out w.heap.size (le_refl _) [.int .i64 2,.int .i64 k,.int .i64 ((k:Int)+2+(d:Int)),.bool true] 0);obtain⟨⟨z0,hz0⟩,hf0⟩:=Q7 HTH5.out 0 (by decide)
     obtain⟨⟨z1,hz1⟩,hf1⟩:=Q7 HTH5.out 1 (by decide)
     obtain⟨⟨z2,hz2⟩,hf2⟩:=Q7 HTH5.out 2 (by decide)
     obtain⟨⟨z3,hz3⟩,hf3⟩:=Q7 HTH5.out 3 (by decide)
     go_wp2
     refine bodyPost_ret (Qw rfl _ rfl HL9.out) rfl ?_;rw[HV.out];exact⟨rfl,HB9.out⟩
    |false =>
     have HV:Hid (Q25 (Q1n l k) k=.agg #[.int .i64 11,.int .i64 k,.int .i64 ((k:Int)+1),.bool false]):=by rw[Hid,HREF.out];simp[Q25]
     have HL9:=hid (QF (P:=prog) (T:=185) w5 w.heap.size [.int .i64 11,.int .i64 k,.int .i64 ((k:Int)+1),.bool false] HTH5.out (by kernel_rfl) underlying185 rfl)
     have HB9:=hid (Qf HB5.out w.heap.size (le_refl _) [.int .i64 11,.int .i64 k,.int .i64 ((k:Int)+1),.bool false] 0);obtain⟨⟨z0,hz0⟩,hf0⟩:=Q7 HTH5.out 0 (by decide)
     obtain⟨⟨z1,hz1⟩,hf1⟩:=Q7 HTH5.out 1 (by decide)
     obtain⟨⟨z2,hz2⟩,hf2⟩:=Q7 HTH5.out 2 (by decide)
     obtain⟨⟨z3,hz3⟩,hf3⟩:=Q7 HTH5.out 3 (by decide)
     go_wp2
     refine bodyPost_ret (Qw rfl _ rfl HL9.out) rfl ?_;rw[HV.out];exact⟨rfl,HB9.out⟩
 |false =>
  go_wp2_with fail
  refine(HS2 _ HB4.out).out.mono ?_;rintro e w5 ⟨rfl,hb5⟩;have HB5:=hid (HB4.out.trans (hb5.mono HB4.out.size));have HTH5:=hid (QK HTH4.out hb5 HLT.out);clear hb5;cases s2 with
  |true =>
   go_wp2_with fail
   refine(HE2 _ HB5.out).out.mono ?_;rintro e wx ⟨rfl,rfl⟩;cases e2 with
   |true =>
    have HV:Hid (Q25 (Q1n l k) k=.agg #[.int .i64 3,.int .i64 k,.int .i64 ((k:Int)+3+(nd:Int)),.bool true]):=by rw[Hid,HREF.out];simp[Q25]
    have HL9:=hid (QF (P:=prog) (T:=185) w5 w.heap.size [.int .i64 3,.int .i64 k,.int .i64 ((k:Int)+3+(nd:Int)),.bool true] HTH5.out (by kernel_rfl) underlying185 rfl)
    have HB9:=hid (Qf HB5.out w.heap.size (le_refl _) [.int .i64 3,.int .i64 k,.int .i64 ((k:Int)+3+(nd:Int)),.bool true] 0);obtain⟨⟨z0,hz0⟩,hf0⟩:=Q7 HTH5.out 0 (by decide)
    obtain⟨⟨z1,hz1⟩,hf1⟩:=Q7 HTH5.out 1 (by decide)
    obtain⟨⟨z2,hz2⟩,hf2⟩:=Q7 HTH5.out 2 (by decide)
    obtain⟨⟨z3,hz3⟩,hf3⟩:=Q7 HTH5.out 3 (by decide)
    go_wp2
    refine bodyPost_ret (Qw rfl _ rfl HL9.out) rfl ?_;rw[HV.out];exact⟨rfl,HB9.out⟩
   |false =>
    go_wp2_with fail
    refine(HE3 _ HB5.out).out.mono ?_;rintro e wx ⟨rfl,rfl⟩;cases e3 with
    |true =>
     have HV:Hid (Q25 (Q1n l k) k=.agg #[.int .i64 2,.int .i64 k,.int .i64 ((k:Int)+2+(d:Int)),.bool true]):=by rw[Hid,HREF.out];simp[Q25]
     have HL9:=hid (QF (P:=prog) (T:=185) w5 w.heap.size [.int .i64 2,.int .i64 k,.int .i64 ((k:Int)+2+(d:Int)),.bool true] HTH5.out (by kernel_rfl) underlying185 rfl)
     have HB9:=hid (Qf HB5.out w.heap.size (le_refl _) [.int .i64 2,.int .i64 k,.int .i64 ((k:Int)+2+(d:Int)),.bool true] 0);obtain⟨⟨z0,hz0⟩,hf0⟩:=Q7 HTH5.out 0 (by decide)
     obtain⟨⟨z1,hz1⟩,hf1⟩:=Q7 HTH5.out 1 (by decide)
     obtain⟨⟨z2,hz2⟩,hf2⟩:=Q7 HTH5.out 2 (by decide)
     obtain⟨⟨z3,hz3⟩,hf3⟩:=Q7 HTH5.out 3 (by decide)
     go_wp2
     refine bodyPost_ret (Qw rfl _ rfl HL9.out) rfl ?_;rw[HV.out];exact⟨rfl,HB9.out⟩
    |false =>
     have HV:Hid (Q25 (Q1n l k) k=.agg #[.int .i64 11,.int .i64 k,.int .i64 ((k:Int)+1),.bool false]):=by rw[Hid,HREF.out];simp[Q25]
     have HL9:=hid (QF (P:=prog) (T:=185) w5 w.heap.size [.int .i64 11,.int .i64 k,.int .i64 ((k:Int)+1),.bool false] HTH5.out (by kernel_rfl) underlying185 rfl)
     have HB9:=hid (Qf HB5.out w.heap.size (le_refl _) [.int .i64 11,.int .i64 k,.int .i64 ((k:Int)+1),.bool false] 0);obtain⟨⟨z0,hz0⟩,hf0⟩:=Q7 HTH5.out 0 (by decide)
     obtain⟨⟨z1,hz1⟩,hf1⟩:=Q7 HTH5.out 1 (by decide)
     obtain⟨⟨z2,hz2⟩,hf2⟩:=Q7 HTH5.out 2 (by decide)
     obtain⟨⟨z3,hz3⟩,hf3⟩:=Q7 HTH5.out 3 (by decide)
     go_wp2
     refine bodyPost_ret (Qw rfl _ rfl HL9.out) rfl ?_;rw[HV.out];exact⟨rfl,HB9.out⟩
  |false =>
   go_wp2_with fail
   refine(HE3 _ HB5.out).out.mono ?_;rintro e wx ⟨rfl,rfl⟩;cases e3 with
   |true =>
    have HV:Hid (Q25 (Q1n l k) k=.agg #[.int .i64 2,.int .i64 k,.int .i64 ((k:Int)+2+(d:Int)),.bool true]):=by rw[Hid,HREF.out];simp[Q25]
    have HL9:=hid (QF (P:=prog) (T:=185) w5 w.heap.size [.int .i64 2,.int .i64 k,.int .i64 ((k:Int)+2+(d:Int)),.bool true] HTH5.out (by kernel_rfl) underlying185 rfl)
    have HB9:=hid (Qf HB5.out w.heap.size (le_refl _) [.int .i64 2,.int .i64 k,.int .i64 ((k:Int)+2+(d:Int)),.bool true] 0);obtain⟨⟨z0,hz0⟩,hf0⟩:=Q7 HTH5.out 0 (by decide)
    obtain⟨⟨z1,hz1⟩,hf1⟩:=Q7 HTH5.out 1 (by decide)
    obtain⟨⟨z2,hz2⟩,hf2⟩:=Q7 HTH5.out 2 (by decide)
    obtain⟨⟨z3,hz3⟩,hf3⟩:=Q7 HTH5.out 3 (by decide)
    go_wp2
    refine bodyPost_ret (Qw rfl _ rfl HL9.out) rfl ?_;rw[HV.out];exact⟨rfl,HB9.out⟩
   |false =>
    have HV:Hid (Q25 (Q1n l k) k=.agg #[.int .i64 11,.int .i64 k,.int .i64 ((k:Int)+1),.bool false]):=by rw[Hid,HREF.out];simp[Q25]
    have HL9:=hid (QF (P:=prog) (T:=185) w5 w.heap.size [.int .i64 11,.int .i64 k,.int .i64 ((k:Int)+1),.bool false] HTH5.out (by kernel_rfl) underlying185 rfl)
    have HB9:=hid (Qf HB5.out w.heap.size (le_refl _) [.int .i64 11,.int .i64 k,.int .i64 ((k:Int)+1),.bool false] 0);obtain⟨⟨z0,hz0⟩,hf0⟩:=Q7 HTH5.out 0 (by decide)
    obtain⟨⟨z1,hz1⟩,hf1⟩:=Q7 HTH5.out 1 (by decide)
    obtain⟨⟨z2,hz2⟩,hf2⟩:=Q7 HTH5.out 2 (by decide)
    obtain⟨⟨z3,hz3⟩,hf3⟩:=Q7 HTH5.out 3 (by decide)
    go_wp2
    refine bodyPost_ret (Qw rfl _ rfl HL9.out) rfl ?_;rw[HV.out];exact⟨rfl,HB9.out⟩
