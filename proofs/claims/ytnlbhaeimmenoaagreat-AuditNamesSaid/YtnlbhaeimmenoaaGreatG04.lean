/- Lemmas, conditions told -/
import Derived.Test.YtnlbhaeimmenoaaGreatG02
import Derived.Lib.Builder
import Derived.Lib.UnsafeStr
import Derived.Lib.Bytealg
set_option maxRecDepth 99999
set_option maxHeartbeats 0
set_option linter.unusedSimpArgs false
set_option linter.unusedVariables false
namespace Go.Proofs.YtnlbhaeimmenoaaGreat
open Lib(hid cell_of_heap)
open Nat(le_refl lt_of_lt_of_le zero_le)
section
open Go.RowKit Go.Lib Tryz
theorem Qfl(l:List Int)(k t:Nat)(bs:List UInt8)(j:Nat)(h:Q3Y l k t bs=some j):k<=j/\j<t+1-bs.length:=by
 rw[Q3Y,List.find?_range'_eq_some]at h;have:=List.mem_range'_1.1 h.2.1
 omega
theorem Q4f(l:List Int)(kd k skip:Nat)(bs:List UInt8)(hk:k<l.length)(hb:0<bs.length):k<(QW l kd k skip bs).2.1/\(QW l kd k skip bs).2.1<=l.length:=by
 unfold QW;cases h:Q3Y l (min (k+skip) l.length) l.length bs with
 |none=>simp only;omega
 |some j =>
  have:=Qfl l _ _ bs j h
  simp only;omega
def Q3B(l:List Int)(k:Nat):Nat×Bool :=
 if Q3 l k [60,33,45,45]=true then((QW l 4 k 4 [45,45,62]).2.1,(QW l 4 k 4 [45,45,62]).2.2)
 else if Q3 l k [60,63]=true then((QW l 5 k 2 [63,62]).2.1,(QW l 5 k 2 [63,62]).2.2)
 else if l.getD k 0=60 then(min ((QH l false k).1+1) l.length,(QH l false k).2)
 else(k+1,true)
theorem Q5c(l:List Int)(k:Nat)(hk:k<l.length):k<(Q3B l k).1/\(Q3B l k).1<=l.length:=by
 unfold Q3B;split
 ·exact Q4f l 4 k 4 _ hk (by decide)
 ·split
  ·exact Q4f l 5 k 2 _ hk (by decide)
  ·split
   ·have:=Q2y l false l.length k (by omega) (by omega)
    simp only;omega
   ·simp only;omega
def Q3Q(l:List Int)(k:Nat)(ok:Bool):Nat×Bool :=
 if h:k<l.length/\ok=true then(if l[k]'h.1=93 then(k+1,true)else Q3Q l (Q3B l k).1 (Q3B l k).2)else(l.length,false)
termination_by l.length-k
decreasing_by
 have:=Q5c l k h.1;omega
theorem Q8T(l:List Int)(k:Nat)(h:k<l.length)(hq:l[k]=93):Q3Q l k true=(k+1,true):=by rw[Q3Q,dif_pos ⟨h,rfl⟩,if_pos hq]
theorem Q7I(l:List Int)(k:Nat)(h:k<l.length)(hq:l[k]≠93):Q3Q l k true=Q3Q l (Q3B l k).1 (Q3B l k).2:=by
 conv=>lhs;rw[Q3Q]
 rw[dif_pos ⟨h,rfl⟩,if_neg hq]
theorem Q4x(l:List Int)(k:Nat)(ok:Bool)(h:¬(k<l.length/\ok=true)):Q3Q l k ok=(l.length,false):=by rw[Q3Q,dif_neg h]
theorem Qen(l:List Int):∀(n k:Nat)(ok:Bool),l.length-k<=n->k<=l.length->(k<(Q3Q l k ok).1\/(Q3Q l k ok).1=l.length)/\(Q3Q l k ok).1<=l.length:=by
 intro n;induction n with
 |zero =>
  intro k ok h hk;rw[Q4x l k ok (by omega)]
  simp
 |succ n ih =>
  intro k ok h hk;by_cases hlt:k<l.length/\ok=true
  ·obtain⟨hlt,rfl⟩:=hlt
   by_cases hq:l[k]=93
   ·rw[Q8T l k hlt hq];simp only;omega
   ·have:=Q5c l k hlt
    have:=ih (Q3B l k).1 (Q3B l k).2 (by omega) (by omega)
    rw[Q7I l k hlt hq];omega
  ·rw[Q4x l k ok hlt];simp
def Q7t(l:List Int)(k:Nat):Nat×Bool:=Q3Q l (k+1) true
theorem Qd7(S:Nat->Prop)(A:Option Addr)(n c:Nat)(l:List Int)(k:Nat)(w:World)(hr:Rd w S 1 A n c (rc l))(hk:k<l.length)(hl9:l.length<=1000000000) :
  Calls prog 172 #[.slice A n c,.int .i64 k] w fun e w'=>e=.returned (.tuple #[.int .i64 (Q3B l k).1,.bool (Q3B l k).2])/\Below w.heap.size w w':=by
 obtain rfl:=hr.rlen;have hle:=hr.le;have hmx:c<=9223372036854775807:=hr.max;have HR:=hid hr
 have HS1:∀W,Below w.heap.size w W->Hid (Calls prog 138 #[.slice A l.length c,.int .i64 k,.string ⟨#[60,33,45,45]⟩] W fun e w'=>e=.returned (.bool (Q3 l k [60,33,45,45]))/\Below W.heap.size W w') :=
  fun W h=>Q1Z S A l.length c l k ⟨#[60,33,45,45]⟩ W (HR.out.below h) (by omega) hl9 (by decide)
 have HS2:∀W,Below w.heap.size w W->Hid (Calls prog 138 #[.slice A l.length c,.int .i64 k,.string ⟨#[60,63]⟩] W fun e w'=>e=.returned (.bool (Q3 l k [60,63]))/\Below W.heap.size W w') :=
  fun W h=>Q1Z S A l.length c l k ⟨#[60,63]⟩ W (HR.out.below h) (by omega) hl9 (by decide)
 have HU1:∀W,Below w.heap.size w W->Hid (Calls prog 148 #[.slice A l.length c,.int .i64 4,.int .i64 k,.int .i64 4,.string ⟨#[45,45,62]⟩] W fun e w'=>e=.returned (Q20 (QW l 4 k 4 [45,45,62]) k)/\Below W.heap.size W w') :=
  fun W h=>Q6f S A l.length c l 4 k 4 ⟨#[45,45,62]⟩ W (HR.out.below h) (by omega) (by decide) hl9 (by decide)
 have HU2:∀W,Below w.heap.size w W->Hid (Calls prog 148 #[.slice A l.length c,.int .i64 5,.int .i64 k,.int .i64 2,.string ⟨#[63,62]⟩] W fun e w'=>e=.returned (Q20 (QW l 5 k 2 [63,62]) k)/\Below W.heap.size W w') :=
  fun W h=>Q6f S A l.length c l 5 k 2 ⟨#[63,62]⟩ W (HR.out.below h) (by omega) (by decide) hl9 (by decide)
 have HAN:=fun W (h:Below w.heap.size w W)=>hid (Qcr S A l.length c l k false W (HR.out.below h) (by omega) hl9)
 obtain⟨ha1,ha2,_⟩:=Q2y l false l.length k (by omega) (by omega)
 have HT:Hid (Q3B l k=if Q3 l k [60,33,45,45]=true then((QW l 4 k 4 [45,45,62]).2.1,(QW l 4 k 4 [45,45,62]).2.2)
  else if Q3 l k [60,63]=true then((QW l 5 k 2 [63,62]).2.1,(QW l 5 k 2 [63,62]).2.2)
  else if l[k]=60 then(min ((QH l false k).1+1) l.length,(QH l false k).2)else(k+1,true)):=by rw[Hid,Q3B,Q8m hk]
 have HCK:=fun W (h:Below w.heap.size w W)=>hid ((HR.out.below h).rune hk)
 clear hr;have hki:(k:Int)<(l.length:Int):=by omega
 generalize Q3B l k=t at HT ⊢;generalize Q3 l k [60,33,45,45]=s1 at HS1 HT;generalize Q3 l k [60,63]=s2 at HS2 HT;generalize QW l 4 k 4 [45,45,62]=u1 at HU1 HT;generalize QW l 5 k 2 [63,62]=u2 at HU2 HT;generalize (QH l false k).1=aj at HAN HT ha1 ha2;generalize (QH l false k).2=ab at HAN HT;generalize l[k]=r at HCK HT;obtain⟨k1,t1,w1b⟩:=u1;obtain⟨k2,t2,w2b⟩:=u2;have HU1:∀W,Below w.heap.size w W->Hid (Calls prog 148 #[.slice A l.length c,.int .i64 4,.int .i64 k,.int .i64 4,.string ⟨#[45,45,62]⟩] W fun e w'=>e=.returned (.agg #[.int .i64 k1,.int .i64 k,.int .i64 t1,.bool w1b])/\Below W.heap.size W w'):=HU1
 have HU2:∀W,Below w.heap.size w W->Hid (Calls prog 148 #[.slice A l.length c,.int .i64 5,.int .i64 k,.int .i64 2,.string ⟨#[63,62]⟩] W fun e w'=>e=.returned (.agg #[.int .i64 k2,.int .i64 k,.int .i64 t2,.bool w2b])/\Below W.heap.size W w'):=HU2
 have hm:∀ts t W,(Builtin.min_ ts t #[.int .i64 ((aj:Int)+1),.int .i64 (l.length:Int)]).run prog W=.ok (.int .i64 (min (aj+1) l.length:Nat)) W:=fun ts t W=>by
  rw[run_min_int2];congr 2
  split<;>omega
 go_enter func172,ntmps172
 go_wp2_with fail
 refine(HS1 _ (Below.refl _ _)).out.mono ?_;rintro e v1 ⟨rfl,hb1⟩;have HB1:=hid hb1;clear hb1 HS1;cases s1 with
 |true =>
  have HE:Hid (t=(t1,w1b)):=HT.out;clear HT;go_wp2_with fail
  refine(HU1 _ HB1.out).out.mono ?_;rintro e v2 ⟨rfl,hb2⟩;have HB2:=hid (bt HB1.out hb2);clear hb2;go_wp2
  go_quiet (fail)
  go_wp2
  go_ret2
  rw[HE.out];exact⟨rfl,Q1x (bt HB2.out (ba _ _)) _⟩
 |false =>
  go_wp2_with fail
  refine(HS2 _ HB1.out).out.mono ?_;rintro e v2 ⟨rfl,hb2⟩;have HB2:=hid (bt HB1.out hb2);clear hb2;cases s2 with
  |true =>
   have HE:Hid (t=(t2,w2b)):=HT.out;clear HT;go_wp2_with fail
   refine(HU2 _ HB2.out).out.mono ?_;rintro e v3 ⟨rfl,hb3⟩;have HB3:=hid (bt HB2.out hb3);clear hb3;go_wp2
   go_quiet (fail)
   go_wp2
   go_ret2
   rw[HE.out];exact⟨rfl,Q1x (bt HB3.out (ba _ _)) _⟩
  |false =>
   obtain⟨b,o,rfl,hc0⟩:=(HCK _ HB2.out).out;by_cases h60:r=60
   ·have HE:Hid (t=(min (aj+1) l.length,ab)):=by rw[Hid,HT.out];simp[h60]
    subst h60;clear HT HCK;generalize min (aj+1) l.length=m2 at hm HE;go_wp2_with fail
    refine(HAN _ HB2.out).out.mono ?_;rintro e v3 ⟨rfl,hb3⟩;have HB3:=hid (bt HB2.out hb3);clear hb3;go_wp2
    go_ret2
    rw[HE.out];exact⟨rfl,HB3.out⟩
   ·have HE:Hid (t=(k+1,true)):=by rw[Hid,HT.out];simp[h60]
    have h60b:(r == 60)=false:=by simpa using h60
    clear HT HCK h60;go_wp2
    go_ret2
    rw[HE.out];exact⟨by simp,HB2.out⟩
theorem Qg8(S:Nat->Prop)(A:Option Addr)(n c:Nat)(l:List Int)(k:Nat)(w:World)(hr:Rd w S 1 A n c (rc l))(hk:k<l.length)(hl9:l.length<=1000000000) :
  Calls prog 165 #[.slice A n c,.int .i64 k] w fun e w'=>e=.returned (.tuple #[.int .i64 (Q7t l k).1,.bool (Q7t l k).2])/\Below w.heap.size w w':=by
 obtain rfl:=hr.rlen;have hle:=hr.le;have hmx:c<=9223372036854775807:=hr.max;have HR:=hid hr;clear hr;have HT:Hid (Q7t l k=Q3Q l (k+1) true):=rfl;generalize Q7t l k=t at HT ⊢;go_enter func165,ntmps165
 go_wp2
 go_loopw [1,6] (fun i o wr=>∃(j:Nat) (ok:Bool),j<=l.length/\i=.int .i64 j/\o=.bool ok/\Hid (t=Q3Q l j ok)/\Hid (Below w.heap.size w wr)) (fun i _ _=>l.length-(RowKit.intOf i).toNat)
 case atStart=>exact⟨k+1,true,by omega,by go_num,rfl,HT.out,Below.refl _ _⟩
 case round =>
  obtain⟨j,ok,hj,rfl,rfl,HJ,HB⟩:=hrel;by_cases hlt:j<l.length
  ·have hji:(j:Int)<(l.length:Int):=by omega
   cases ok with
   |true =>
    obtain⟨b,o,rfl,hc0⟩:=(HR.out.below HB.out).rune hlt;have H1:=hid (Q8T l j hlt);have H2:=hid (Q7I l j hlt);have HDC:=hid (Qd7 S _ l.length c l j _ (HR.out.below HB.out) hlt hl9);obtain⟨hd1,hd2⟩:=Q5c l j hlt;generalize l[j]=r at hc0 H1 H2;generalize (Q3B l j).1=dj at H2 HDC hd1 hd2;generalize (Q3B l j).2=db at H2 HDC;by_cases h93:r=93
    ·have HE:=hid (HJ.out.trans (H1.out h93))
     subst h93;clear H1 H2 HJ HDC;go_wp2
     go_ret2
     rw[HE.out];exact⟨by simp,HB.out⟩
    ·have HE:=hid (HJ.out.trans (H2.out h93))
     have h93b:(r == 93)=false:=by simpa using h93
     clear H1 H2 HJ h93;go_wp2_with fail
     refine HDC.out.mono ?_;rintro e v2 ⟨rfl,hb2⟩;have HB2:=hid (HB.out.trans (hb2.mono HB.out.size));clear hb2;go_wp2
     go_roundw
     case rel=>exact⟨dj,db,by omega,rfl,rfl,HE.out,HB2.out⟩
     case measure=>simp[RowKit.intOf];omega
   |false =>
    have HE:=hid (HJ.out.trans (Q4x l j false (by simp)))
    clear HJ;go_wp2
    go_ret2
    rw[HE.out];exact⟨rfl,HB.out⟩
  ·have hji:¬(j:Int)<(l.length:Int):=by omega
   have HE:=hid (HJ.out.trans (Q4x l j ok (fun h=>hlt h.1)))
   clear HJ;go_wp2
   go_ret2
   rw[HE.out];exact⟨rfl,HB.out⟩
theorem Q7B(l:List Int)(k:Nat)(hk:k<l.length):k<(Q7t l k).1/\(Q7t l k).1<=l.length:=by
 have:=Qen l l.length (k+1) true (by omega) (by omega)
 unfold Q7t;omega
def Q2l(l:List Int)(k:Nat)(ok:Bool):Nat×Bool :=
 if h:k<l.length/\ok=true then
  (if l[k]'h.1=62 then(k+1,true)else if Q2Q (l[k]'h.1)then Q2l l (Q16 l k).1 (Q16 l k).2 else if l[k]'h.1=91 then Q2l l (Q7t l k).1 (Q7t l k).2 else Q2l l (k+1) true)
 else(l.length,false)
termination_by l.length-k
decreasing_by
 ·have:=Q2D l k h.1;omega
 ·have:=Q7B l k h.1;omega
 ·omega
theorem Q4D(l:List Int)(k:Nat)(ok:Bool)(h:¬(k<l.length/\ok=true)):Q2l l k ok=(l.length,false):=by rw[Q2l,dif_neg h]
theorem Q8H(l:List Int)(k:Nat)(h:k<l.length)(hq:l[k]=62):Q2l l k true=(k+1,true):=by rw[Q2l,dif_pos ⟨h,rfl⟩,if_pos hq]
theorem Q8W(l:List Int)(k:Nat)(h:k<l.length)(h1:l[k]≠62)(hq:Q2Q l[k]=true):Q2l l k true=Q2l l (Q16 l k).1 (Q16 l k).2:=by
 conv=>lhs;rw[Q2l]
 rw[dif_pos ⟨h,rfl⟩,if_neg h1,if_pos hq]
theorem Q8I(l:List Int)(k:Nat)(h:k<l.length)(hq:l[k]=91):Q2l l k true=Q2l l (Q7t l k).1 (Q7t l k).2:=by
 conv=>lhs;rw[Q2l]
 rw[dif_pos ⟨h,rfl⟩,if_neg (by rw[hq];decide),if_neg (by rw[hq];decide),if_pos hq]
theorem Q7m(l:List Int)(k:Nat)(h:k<l.length)(h1:l[k]≠62)(h2:Q2Q l[k]=false)(h3:l[k]≠91):Q2l l k true=Q2l l (k+1) true:=by
 conv=>lhs;rw[Q2l]
 rw[dif_pos ⟨h,rfl⟩,if_neg h1,if_neg (by simp[h2]),if_neg h3]
def Q3F(l:List Int)(k:Nat):Nat×Nat×Bool:=(7,(Q2l l (k+9) true).1,(Q2l l (k+9) true).2)
def Q1s(l:List Int)(k:Nat):Nat×Nat×Bool :=
 if Q3 l k [60,33,45,45]=true then QW l 4 k 4 [45,45,62]
 else if Q3 l k [60,33,91,67,68,65,84,65,91]=true then QW l 6 k 9 [93,93,62]
 else if Q3 l k [60,63]=true then QW l 5 k 2 [63,62]
 else if Q3 l k [60,33,68,79,67,84,89,80,69]=true then Q3F l k
 else if Q3 l k [60,47]=true then Q3l l k
 else if 0<Qk l (k+1)then Q1m l k
 else(11,k+1,false)
def Q1O(r:Int):Bool:=r != 60&&(r != 38&&r != -1)
def Qd(l:List Int)(k:Nat):Nat×Nat×Bool :=
 if l.getD k 0=60 then Q1s l k else if l.getD k 0=38 then Q1e l k else if l.getD k 0=-1 then(11,k+1,false)
 else(1,k+((l.drop k).takeWhile Q1O).length,true)
theorem QcL(S:Nat->Prop)(A:Option Addr)(n c:Nat)(l:List Int)(k:Nat)(w:World)(hr:Rd w S 1 A n c (rc l))(hk:k+9<=l.length)(hl9:l.length<=1000000000) :
  Calls prog 149 #[.slice A n c,.int .i64 k] w fun e w'=>e=.returned (Q20 (Q3F l k) k)/\Below w.heap.size w w':=by
 obtain rfl:=hr.rlen;have hle:=hr.le;have hmx:c<=9223372036854775807:=hr.max;have HR:=hid hr;clear hr;obtain⟨t,ht⟩:∃t,t=Q2l l (k+9) true:=⟨_,rfl⟩;have HT:=hid ht;have HTT:Hid (Q3F l k=(7,t.1,t.2)):=by rw[Hid,ht];rfl
 clear ht;go_enter func149,ntmps149
 go_wp2
 have HTH0:=hid (Q2K w #[.int .i64 0,.int .i64 0,.int .i64 0,.bool false] 126);have HB0:=hid (ba w (.cells #[.int .i64 0,.int .i64 0,.int .i64 0,.bool false] 126));have HSZ:Hid (w.heap.size<(w.alloc (.cells #[.int .i64 0,.int .i64 0,.int .i64 0,.bool false] 126)).heap.size):=by simp[Hid]
 generalize w.alloc (.cells #[.int .i64 0,.int .i64 0,.int .i64 0,.bool false] 126)=W0 at HTH0 HB0 HSZ;have HTH0:Hid (W0.there w.heap.size 0 4):=HTH0.out;go_loopw [5,6] (fun o i wr=>∃(j:Nat) (ok:Bool),j<=l.length/\i=.int .i64 j/\o=.bool ok/\Hid (t=Q2l l j ok)/\Hid (Below w.heap.size w wr)/\Hid (wr.there w.heap.size 0 4)/\Hid (w.heap.size<wr.heap.size)) (fun _ i _=>l.length-(RowKit.intOf i).toNat)
 case atStart=>exact⟨k+9,true,by omega,by go_num,rfl,HT.out,HB0.out,HTH0.out,HSZ.out⟩
 case round =>
  obtain⟨j,ok,hj,rfl,rfl,HJ,HB,HTH,HLT⟩:=hrel;by_cases hlt:j<l.length
  ·have hji:(j:Int)<(l.length:Int):=by omega
   cases ok with
   |true =>
    obtain⟨b,o,rfl,hc0⟩:=(HR.out.below HB.out).rune hlt;have H1:=hid (Q8H l j hlt);have H2:=hid (Q8W l j hlt);have H3:=hid (Q8I l j hlt);have H4:=hid (Q7m l j hlt);have HQT:=hid (QaI l[j]);have HQD:=hid (Qbl S _ l.length c l j _ (HR.out.below HB.out) hlt hl9);have HSB:=hid (Qg8 S _ l.length c l j _ (HR.out.below HB.out) hlt hl9);obtain⟨hg1,hg2⟩:=Q2D l j hlt;obtain⟨hs1,hs2⟩:=Q7B l j hlt;generalize (Q16 l j).1=qj at HQD H2 hg1 hg2;generalize (Q16 l j).2=qb at HQD H2;generalize (Q7t l j).1=sj at HSB H3 hs1 hs2;generalize (Q7t l j).2=sb at HSB H3;generalize l[j]=r at hc0 HQT H1 H2 H3 H4;by_cases h62:r=62
    ·have HE:Hid (Q3F l k=(7,j+1,true)):=by rw[Hid,HTT.out,HJ.out.trans (H1.out h62)]
     subst h62;clear H1 H2 H3 H4 HJ HTT HQD HSB HQT;have HL9:=hid (Qv (P:=prog) (T:=126) wr w.heap.size [.int .i64 7,.int .i64 k,.int .i64 ((j:Int)+1),.bool true] HTH.out (by kernel_rfl) underlying126 rfl)
     have HB9:=hid (Qe HB.out w.heap.size (le_refl _) [.int .i64 7,.int .i64 k,.int .i64 ((j:Int)+1),.bool true] 0);obtain⟨⟨z0,hz0⟩,hf0⟩:=Q5 HTH.out 0 (by decide)
     obtain⟨⟨z1,hz1⟩,hf1⟩:=Q5 HTH.out 1 (by decide)
     obtain⟨⟨z2,hz2⟩,hf2⟩:=Q5 HTH.out 2 (by decide)
     obtain⟨⟨z3,hz3⟩,hf3⟩:=Q5 HTH.out 3 (by decide)
     go_wp2
     refine bodyPost_ret (Qr rfl _ rfl HL9.out) rfl ?_;rw[HE.out];exact⟨by simp[Q20],HB9.out⟩
    ·have h62b:(r == 62)=false:=by simpa using h62
     have HQT2:=fun W=>hid (HQT.out W)
     cases hq:Q2Q r with
     |true =>
      have HN:=hid (HJ.out.trans (H2.out h62 hq));rw[hq]at HQT2;clear H1 H2 H3 H4 HJ HSB HQT h62 hq;go_wp2_with fail
      refine(HQT2 _).out.mono ?_;rintro e wx ⟨rfl,rfl⟩;go_wp2_with fail
      refine HQD.out.mono ?_;rintro e v2 ⟨rfl,hb2⟩;have HB2:=hid (HB.out.trans (hb2.mono HB.out.size));have HTH2:=hid (QJ HTH.out hb2 HLT.out);have HLT2:=hid (lt_of_lt_of_le HLT.out hb2.size);clear hb2;go_wp2
      go_roundw
      case rel=>exact⟨qj,qb,by omega,rfl,rfl,HN.out,HB2.out,HTH2.out,HLT2.out⟩
      case measure=>simp[RowKit.intOf];omega
     |false =>
      rw[hq]at HQT2;by_cases h91:r=91
      ·have HN:=hid (HJ.out.trans (H3.out h91))
       subst h91;clear H1 H2 H3 H4 HJ HQD HQT h62 hq;go_wp2_with fail
       refine(HQT2 _).out.mono ?_;rintro e wx ⟨rfl,rfl⟩;go_wp2_with fail
       refine HSB.out.mono ?_;rintro e v2 ⟨rfl,hb2⟩;have HB2:=hid (HB.out.trans (hb2.mono HB.out.size));have HTH2:=hid (QJ HTH.out hb2 HLT.out);have HLT2:=hid (lt_of_lt_of_le HLT.out hb2.size);clear hb2;go_wp2
       go_roundw
       case rel=>exact⟨sj,sb,by omega,rfl,rfl,HN.out,HB2.out,HTH2.out,HLT2.out⟩
       case measure=>simp[RowKit.intOf];omega
      ·have HN:=hid (HJ.out.trans (H4.out h62 hq h91))
       have h91b:(r == 91)=false:=by simpa using h91
       clear H1 H2 H3 H4 HJ HQD HSB HQT h62 hq h91;go_wp2_with fail
       refine(HQT2 _).out.mono ?_;rintro e wx ⟨rfl,rfl⟩;go_wp2
       go_roundw
       case rel=>exact⟨j+1,true,by omega,by go_num,rfl,HN.out,HB.out,HTH.out,HLT.out⟩
       case measure=>simp[RowKit.intOf];omega
   |false =>
    have HE:Hid (Q3F l k=(7,l.length,false)):=by rw[Hid,HTT.out,HJ.out.trans (Q4D l j false (by simp))]
    clear HJ HTT;have HL9:=hid (Qv (P:=prog) (T:=126) wr w.heap.size [.int .i64 7,.int .i64 k,.int .i64 (l.length),.bool false] HTH.out (by kernel_rfl) underlying126 rfl)
    have HB9:=hid (Qe HB.out w.heap.size (le_refl _) [.int .i64 7,.int .i64 k,.int .i64 (l.length),.bool false] 0);obtain⟨⟨z0,hz0⟩,hf0⟩:=Q5 HTH.out 0 (by decide)
    obtain⟨⟨z1,hz1⟩,hf1⟩:=Q5 HTH.out 1 (by decide)
    obtain⟨⟨z2,hz2⟩,hf2⟩:=Q5 HTH.out 2 (by decide)
    obtain⟨⟨z3,hz3⟩,hf3⟩:=Q5 HTH.out 3 (by decide)
    go_wp2
    refine bodyPost_ret (Qr rfl _ rfl HL9.out) rfl ?_;rw[HE.out];exact⟨by simp[Q20],HB9.out⟩
  ·have hji:¬(j:Int)<(l.length:Int):=by omega
   have HE:Hid (Q3F l k=(7,l.length,false)):=by rw[Hid,HTT.out,HJ.out.trans (Q4D l j ok (fun h=>hlt h.1))]
   clear HJ HTT;have HL9:=hid (Qv (P:=prog) (T:=126) wr w.heap.size [.int .i64 7,.int .i64 k,.int .i64 (l.length),.bool false] HTH.out (by kernel_rfl) underlying126 rfl)
   have HB9:=hid (Qe HB.out w.heap.size (le_refl _) [.int .i64 7,.int .i64 k,.int .i64 (l.length),.bool false] 0);obtain⟨⟨z0,hz0⟩,hf0⟩:=Q5 HTH.out 0 (by decide)
   obtain⟨⟨z1,hz1⟩,hf1⟩:=Q5 HTH.out 1 (by decide)
   obtain⟨⟨z2,hz2⟩,hf2⟩:=Q5 HTH.out 2 (by decide)
   obtain⟨⟨z3,hz3⟩,hf3⟩:=Q5 HTH.out 3 (by decide)
   go_wp2
   refine bodyPost_ret (Qr rfl _ rfl HL9.out) rfl ?_;rw[HE.out];exact⟨by simp[Q20],HB9.out⟩
end
section
open Go.RowKit Go.Lib
end
section
open Go.RowKit Go.Lib Tryz
theorem QfC(S:Nat->Prop)(A:Option Addr)(n c:Nat)(l:List Int)(k:Nat)(w:World)(hr:Rd w S 1 A n c (rc l))(h38:l[k]?=some 38)(hl9:l.length<=1000000000) :
  Calls prog 95 #[.slice A n c,.int .i64 k] w fun e w'=>e=.returned (.tuple #[Q20 (Q1e l k) k,.bool true])/\Below w.heap.size w w':=by
 obtain rfl:=hr.rlen;have hle:=hr.le;have hmx:c<=9223372036854775807:=hr.max;obtain⟨hk,h38⟩:=List.getElem?_eq_some_iff.1 h38;obtain⟨b,o,rfl,hc0⟩:=hr.rune hk;rw[h38]at hc0;have hca:=fun ob=>Q6O (ba w ob) hc0
 have hki:¬(k:Int) ≥ (l.length:Int):=by omega
 have HRF:=fun W (h:Below w.heap.size w W)=>hid (QnU S _ _ c l k W (hr.below h) hk hl9)
 clear hr h38;generalize Q1e l k=t at HRF ⊢;obtain⟨kd,to,wh⟩:=t;have HRF:∀W,Below w.heap.size w W->Hid (Calls prog 130 #[.slice (some ⟨b,o,none⟩) l.length c,.int .i64 k] W fun e w'=>e=.returned (.agg #[.int .i64 kd,.int .i64 k,.int .i64 to,.bool wh])/\Below W.heap.size W w'):=HRF
 go_enter func95,ntmps95
 go_wp2_with fail
 have HTH0:=hid (Q2K w #[.int .i64 0,.int .i64 0,.int .i64 0,.bool false] 126);have HB0:=hid (ba w (.cells #[.int .i64 0,.int .i64 0,.int .i64 0,.bool false] 126));have HSZ:Hid (w.heap.size<(w.alloc (.cells #[.int .i64 0,.int .i64 0,.int .i64 0,.bool false] 126)).heap.size):=by simp[Hid]
 generalize w.alloc (.cells #[.int .i64 0,.int .i64 0,.int .i64 0,.bool false] 126)=W0 at HTH0 HB0 HSZ;refine(HRF _ HB0.out).out.mono ?_;rintro e w1 ⟨rfl,hb1⟩;have HB1:=hid (HB0.out.trans (hb1.mono HB0.out.size));have hth:=QJ HTH0.out hb1 HSZ.out;have HL9:=hid (Qv (P:=prog) (T:=126) w1 w.heap.size [.int .i64 kd,.int .i64 k,.int .i64 to,.bool wh] hth (by kernel_rfl) underlying126 rfl)
 have HB9:=hid (Qe HB1.out w.heap.size (le_refl _) [.int .i64 kd,.int .i64 k,.int .i64 to,.bool wh] 0);obtain⟨⟨z0,hz0⟩,hf0⟩:=Q5 hth 0 (by decide)
 obtain⟨⟨z1,hz1⟩,hf1⟩:=Q5 hth 1 (by decide)
 obtain⟨⟨z2,hz2⟩,hf2⟩:=Q5 hth 2 (by decide)
 obtain⟨⟨z3,hz3⟩,hf3⟩:=Q5 hth 3 (by decide)
 clear hth hb1 HTH0 HRF;go_wp2
 refine bodyPost_ret (Q42 rfl _ rfl HL9.out) rfl ?_;exact⟨rfl,HB9.out⟩
theorem Qln{P:Program}{T:TypeId}{d:TypeDesc}(w:World)(vs:List Value)(hi:(P.info? T).map (·.size)=some vs.length)(hu:P.underlying T=some d)(hd:d.isRow=true) :
  (loadVar T ⟨w.heap.size,0,none⟩).run P (w.alloc (.cells vs.toArray T))=.ok (.agg vs.toArray) (w.alloc (.cells vs.toArray T)) :=
 run_loadVar_mid (P:=P) _ w.heap.size 0 T vs d (fun j v hv=>by
  rw[World.cell?_alloc_at _ _ _ _ rfl,Nat.zero_add];simpa using hv) hu hd hi
theorem Q10(l:List Int)(k:Nat)(bs:List UInt8)(hk:k<=l.length)(h:Q3 l k bs=true):k+bs.length<=l.length:=by
 by_cases hn:l.length<k+bs.length
 ·rw[Q5Z l k bs hn hk]at h;cases h
 ·omega
theorem QfX(S:Nat->Prop)(A:Option Addr)(n c:Nat)(l:List Int)(k:Nat)(w:World)(hr:Rd w S 1 A n c (rc l))(hk:k<l.length)(hl9:l.length<=1000000000) :
  Calls prog 129 #[.slice A n c,.int .i64 k] w fun e w'=>e=.returned (Q20 (Q1s l k) k)/\Below w.heap.size w w':=by
 obtain rfl:=hr.rlen;have hle:=hr.le;have hmx:c<=9223372036854775807:=hr.max;have HR:=hid hr
 have HSa:∀W,Below w.heap.size w W->Hid (Calls prog 138 #[.slice A l.length c,.int .i64 k,.string ⟨#[60,33,45,45]⟩] W fun e w'=>e=.returned (.bool (Q3 l k [60,33,45,45]))/\Below W.heap.size W w') :=
  fun W h=>Q1Z S A l.length c l k ⟨#[60,33,45,45]⟩ W (HR.out.below h) (by omega) hl9 (by decide)
 have HSb:∀W,Below w.heap.size w W->Hid (Calls prog 138 #[.slice A l.length c,.int .i64 k,.string ⟨#[60,33,91,67,68,65,84,65,91]⟩] W fun e w'=>e=.returned (.bool (Q3 l k [60,33,91,67,68,65,84,65,91]))/\Below W.heap.size W w') :=
  fun W h=>Q1Z S A l.length c l k ⟨#[60,33,91,67,68,65,84,65,91]⟩ W (HR.out.below h) (by omega) hl9 (by decide)
 have HSc:∀W,Below w.heap.size w W->Hid (Calls prog 138 #[.slice A l.length c,.int .i64 k,.string ⟨#[60,63]⟩] W fun e w'=>e=.returned (.bool (Q3 l k [60,63]))/\Below W.heap.size W w') :=
  fun W h=>Q1Z S A l.length c l k ⟨#[60,63]⟩ W (HR.out.below h) (by omega) hl9 (by decide)
 have HSd:∀W,Below w.heap.size w W->Hid (Calls prog 138 #[.slice A l.length c,.int .i64 k,.string ⟨#[60,33,68,79,67,84,89,80,69]⟩] W fun e w'=>e=.returned (.bool (Q3 l k [60,33,68,79,67,84,89,80,69]))/\Below W.heap.size W w') :=
  fun W h=>Q1Z S A l.length c l k ⟨#[60,33,68,79,67,84,89,80,69]⟩ W (HR.out.below h) (by omega) hl9 (by decide)
 have HSe:∀W,Below w.heap.size w W->Hid (Calls prog 138 #[.slice A l.length c,.int .i64 k,.string ⟨#[60,47]⟩] W fun e w'=>e=.returned (.bool (Q3 l k [60,47]))/\Below W.heap.size W w') :=
  fun W h=>Q1Z S A l.length c l k ⟨#[60,47]⟩ W (HR.out.below h) (by omega) hl9 (by decide)
 have HUa:∀W,Below w.heap.size w W->Hid (Calls prog 148 #[.slice A l.length c,.int .i64 4,.int .i64 k,.int .i64 4,.string ⟨#[45,45,62]⟩] W fun e w'=>e=.returned (.agg #[.int .i64 (QW l 4 k 4 [45,45,62]).1,.int .i64 k,.int .i64 (QW l 4 k 4 [45,45,62]).2.1,.bool (QW l 4 k 4 [45,45,62]).2.2])/\Below W.heap.size W w') :=
  fun W h=>Q6f S A l.length c l 4 k 4 ⟨#[45,45,62]⟩ W (HR.out.below h) (by omega) (by decide) hl9 (by decide)
 have HUb:∀W,Below w.heap.size w W->Hid (Calls prog 148 #[.slice A l.length c,.int .i64 6,.int .i64 k,.int .i64 9,.string ⟨#[93,93,62]⟩] W fun e w'=>e=.returned (.agg #[.int .i64 (QW l 6 k 9 [93,93,62]).1,.int .i64 k,.int .i64 (QW l 6 k 9 [93,93,62]).2.1,.bool (QW l 6 k 9 [93,93,62]).2.2])/\Below W.heap.size W w') :=
  fun W h=>Q6f S A l.length c l 6 k 9 ⟨#[93,93,62]⟩ W (HR.out.below h) (by omega) (by decide) hl9 (by decide)
 have HUc:∀W,Below w.heap.size w W->Hid (Calls prog 148 #[.slice A l.length c,.int .i64 5,.int .i64 k,.int .i64 2,.string ⟨#[63,62]⟩] W fun e w'=>e=.returned (.agg #[.int .i64 (QW l 5 k 2 [63,62]).1,.int .i64 k,.int .i64 (QW l 5 k 2 [63,62]).2.1,.bool (QW l 5 k 2 [63,62]).2.2])/\Below W.heap.size W w') :=
  fun W h=>Q6f S A l.length c l 5 k 2 ⟨#[63,62]⟩ W (HR.out.below h) (by omega) (by decide) hl9 (by decide)
 have HUd:Q3 l k [60,33,68,79,67,84,89,80,69]=true->∀W,Below w.heap.size w W->Hid (Calls prog 149 #[.slice A l.length c,.int .i64 k] W fun e w'=>e=.returned (.agg #[.int .i64 (Q3F l k).1,.int .i64 k,.int .i64 (Q3F l k).2.1,.bool (Q3F l k).2.2])/\Below W.heap.size W w') :=
  fun hs W h=>QcL S A l.length c l k W (HR.out.below h) (by have:=Q10 l k _ (by omega) hs;simpa using this) hl9
 have HUe:Q3 l k [60,47]=true->∀W,Below w.heap.size w W->Hid (Calls prog 150 #[.slice A l.length c,.int .i64 k] W fun e w'=>e=.returned (.agg #[.int .i64 (Q3l l k).1,.int .i64 k,.int .i64 (Q3l l k).2.1,.bool (Q3l l k).2.2])/\Below W.heap.size W w') :=
  fun hs W h=>Qlw S A l.length c l k W (HR.out.below h) (by have:=Q10 l k _ (by omega) hs;simpa using this) hl9
 have HUf:∀W,Below w.heap.size w W->Hid (Calls prog 151 #[.slice A l.length c,.int .i64 k] W fun e w'=>e=.returned (.agg #[.int .i64 (Q1m l k).1,.int .i64 k,.int .i64 (Q1m l k).2.1,.bool (Q1m l k).2.2])/\Below W.heap.size W w') :=
  fun W h=>Qgx S A l.length c l k W (HR.out.below h) hk hl9
 have HLD:∀W,Below w.heap.size w W->Hid (Calls prog 136 #[.slice A l.length c,.int .i64 ((k:Int)+1)] W fun e w'=>e=.returned (.int .i64 (Qk l (k+1)))/\Below W.heap.size W w'):=fun W h=>by
  rw[show((k:Int)+1)=((k+1:Nat):Int) by omega]
  exact Q8A S A l.length c l (k+1) W (HR.out.below h) (by omega)
 have HT:Hid (Q1s l k=if Q3 l k [60,33,45,45]=true then QW l 4 k 4 [45,45,62]
  else if Q3 l k [60,33,91,67,68,65,84,65,91]=true then QW l 6 k 9 [93,93,62]
  else if Q3 l k [60,63]=true then QW l 5 k 2 [63,62]
  else if Q3 l k [60,33,68,79,67,84,89,80,69]=true then Q3F l k
  else if Q3 l k [60,47]=true then Q3l l k
  else if 0<Qk l (k+1)then Q1m l k
  else(11,k+1,false)):=rfl
 clear hr;generalize Q1s l k=t at HT ⊢;generalize Q3 l k [60,33,45,45]=sa at HSa HT;generalize Q3 l k [60,33,91,67,68,65,84,65,91]=sb at HSb HT;generalize Q3 l k [60,63]=sc at HSc HT;generalize Q3 l k [60,33,68,79,67,84,89,80,69]=sd at HSd HT HUd;generalize Q3 l k [60,47]=se at HSe HT HUe;generalize QW l 4 k 4 [45,45,62]=ua at HUa HT;generalize QW l 6 k 9 [93,93,62]=ub at HUb HT;generalize QW l 5 k 2 [63,62]=uc at HUc HT;generalize Q3F l k=ud at HUd HT;generalize Q3l l k=ue at HUe HT;generalize Q1m l k=uf at HUf HT;generalize Qk l (k+1)=ld at HLD HT;obtain⟨kka,tta,wwa⟩:=ua;obtain⟨kkb,ttb,wwb⟩:=ub;obtain⟨kkc,ttc,wwc⟩:=uc;obtain⟨kkd,ttd,wwd⟩:=ud;obtain⟨kke,tte,wwe⟩:=ue;obtain⟨kkf,ttf,wwf⟩:=uf;go_enter func129,ntmps129
 go_wp2_with fail
 have HTH0:=hid (Q2K w #[.int .i64 0,.int .i64 0,.int .i64 0,.bool false] 126);have HB0:=hid (ba w (.cells #[.int .i64 0,.int .i64 0,.int .i64 0,.bool false] 126));have HSZ:Hid (w.heap.size<(w.alloc (.cells #[.int .i64 0,.int .i64 0,.int .i64 0,.bool false] 126)).heap.size):=by simp[Hid]
 generalize w.alloc (.cells #[.int .i64 0,.int .i64 0,.int .i64 0,.bool false] 126)=W0 at HTH0 HB0 HSZ;have HTH0:Hid (W0.there w.heap.size 0 4):=HTH0.out;refine(HSa _ HB0.out).out.mono ?_;rintro e va ⟨rfl,hb⟩;have HBa:=hid (HB0.out.trans (hb.mono HB0.out.size));have HTHa:Hid (va.there w.heap.size 0 4):=QJ HTH0.out hb HSZ.out;have HLTa:Hid (w.heap.size<va.heap.size):=lt_of_lt_of_le HSZ.out hb.size;clear hb HSa;cases sa with
 |true =>
  have HE:Hid (t=(kka,tta,wwa)):=HT.out;clear HT;go_wp2_with fail
  refine(HUa _ HBa.out).out.mono ?_;rintro e xa ⟨rfl,hb⟩;have HBx:=hid (HBa.out.trans (hb.mono HBa.out.size));have HTHx:Hid (xa.there w.heap.size 0 4):=QJ HTHa.out hb HLTa.out;clear hb;have HL9:=hid (Qv (P:=prog) (T:=126) xa w.heap.size [.int .i64 kka,.int .i64 k,.int .i64 (tta),.bool wwa] HTHx.out (by kernel_rfl) underlying126 rfl)
  have HB9:=hid (Qe HBx.out w.heap.size (le_refl _) [.int .i64 kka,.int .i64 k,.int .i64 (tta),.bool wwa] 0);obtain⟨⟨z0,hz0⟩,hf0⟩:=Q5 HTHx.out 0 (by decide)
  obtain⟨⟨z1,hz1⟩,hf1⟩:=Q5 HTHx.out 1 (by decide)
  obtain⟨⟨z2,hz2⟩,hf2⟩:=Q5 HTHx.out 2 (by decide)
  obtain⟨⟨z3,hz3⟩,hf3⟩:=Q5 HTHx.out 3 (by decide)
  go_wp2
  refine bodyPost_ret (Qr rfl _ rfl HL9.out) rfl ?_;rw[HE.out];exact⟨rfl,HB9.out⟩
 |false =>
  go_wp2_with fail
  refine(HSb _ HBa.out).out.mono ?_;rintro e vb ⟨rfl,hb⟩;have HBb:=hid (HBa.out.trans (hb.mono HBa.out.size));have HTHb:Hid (vb.there w.heap.size 0 4):=QJ HTHa.out hb HLTa.out;have HLTb:Hid (w.heap.size<vb.heap.size):=lt_of_lt_of_le HLTa.out hb.size;clear hb HSb;cases sb with
  |true =>
   have HE:Hid (t=(kkb,ttb,wwb)):=HT.out;clear HT;go_wp2_with fail
   refine(HUb _ HBb.out).out.mono ?_;rintro e xb ⟨rfl,hb⟩;have HBx:=hid (HBb.out.trans (hb.mono HBb.out.size));have HTHx:Hid (xb.there w.heap.size 0 4):=QJ HTHb.out hb HLTb.out;clear hb;have HL9:=hid (Qv (P:=prog) (T:=126) xb w.heap.size [.int .i64 kkb,.int .i64 k,.int .i64 (ttb),.bool wwb] HTHx.out (by kernel_rfl) underlying126 rfl)
   have HB9:=hid (Qe HBx.out w.heap.size (le_refl _) [.int .i64 kkb,.int .i64 k,.int .i64 (ttb),.bool wwb] 0);obtain⟨⟨z0,hz0⟩,hf0⟩:=Q5 HTHx.out 0 (by decide)
   obtain⟨⟨z1,hz1⟩,hf1⟩:=Q5 HTHx.out 1 (by decide)
   obtain⟨⟨z2,hz2⟩,hf2⟩:=Q5 HTHx.out 2 (by decide)
   obtain⟨⟨z3,hz3⟩,hf3⟩:=Q5 HTHx.out 3 (by decide)
   go_wp2
   refine bodyPost_ret (Qr rfl _ rfl HL9.out) rfl ?_;rw[HE.out];exact⟨rfl,HB9.out⟩
  |false =>
   go_wp2_with fail
   refine(HSc _ HBb.out).out.mono ?_;rintro e vc ⟨rfl,hb⟩;have HBc:=hid (HBb.out.trans (hb.mono HBb.out.size));have HTHc:Hid (vc.there w.heap.size 0 4):=QJ HTHb.out hb HLTb.out;have HLTc:Hid (w.heap.size<vc.heap.size):=lt_of_lt_of_le HLTb.out hb.size;clear hb HSc;cases sc with
   |true =>
    have HE:Hid (t=(kkc,ttc,wwc)):=HT.out;clear HT;go_wp2_with fail
    refine(HUc _ HBc.out).out.mono ?_;rintro e xc ⟨rfl,hb⟩;have HBx:=hid (HBc.out.trans (hb.mono HBc.out.size));have HTHx:Hid (xc.there w.heap.size 0 4):=QJ HTHc.out hb HLTc.out;clear hb;have HL9:=hid (Qv (P:=prog) (T:=126) xc w.heap.size [.int .i64 kkc,.int .i64 k,.int .i64 (ttc),.bool wwc] HTHx.out (by kernel_rfl) underlying126 rfl)
    have HB9:=hid (Qe HBx.out w.heap.size (le_refl _) [.int .i64 kkc,.int .i64 k,.int .i64 (ttc),.bool wwc] 0);obtain⟨⟨z0,hz0⟩,hf0⟩:=Q5 HTHx.out 0 (by decide)
    obtain⟨⟨z1,hz1⟩,hf1⟩:=Q5 HTHx.out 1 (by decide)
    obtain⟨⟨z2,hz2⟩,hf2⟩:=Q5 HTHx.out 2 (by decide)
    obtain⟨⟨z3,hz3⟩,hf3⟩:=Q5 HTHx.out 3 (by decide)
    go_wp2
    refine bodyPost_ret (Qr rfl _ rfl HL9.out) rfl ?_;rw[HE.out];exact⟨rfl,HB9.out⟩
   |false =>
    go_wp2_with fail
    refine(HSd _ HBc.out).out.mono ?_;rintro e vd ⟨rfl,hb⟩;have HBd:=hid (HBc.out.trans (hb.mono HBc.out.size));have HTHd:Hid (vd.there w.heap.size 0 4):=QJ HTHc.out hb HLTc.out;have HLTd:Hid (w.heap.size<vd.heap.size):=lt_of_lt_of_le HLTc.out hb.size;clear hb HSd;cases sd with
    |true =>
     have HE:Hid (t=(kkd,ttd,wwd)):=HT.out;clear HT;go_wp2_with fail
     refine(HUd (by first|trivial|rfl) _ HBd.out).out.mono ?_
     rintro e xd ⟨rfl,hb⟩;have HBx:=hid (HBd.out.trans (hb.mono HBd.out.size));have HTHx:Hid (xd.there w.heap.size 0 4):=QJ HTHd.out hb HLTd.out;clear hb;have HL9:=hid (Qv (P:=prog) (T:=126) xd w.heap.size [.int .i64 kkd,.int .i64 k,.int .i64 (ttd),.bool wwd] HTHx.out (by kernel_rfl) underlying126 rfl)
     have HB9:=hid (Qe HBx.out w.heap.size (le_refl _) [.int .i64 kkd,.int .i64 k,.int .i64 (ttd),.bool wwd] 0);obtain⟨⟨z0,hz0⟩,hf0⟩:=Q5 HTHx.out 0 (by decide)
     obtain⟨⟨z1,hz1⟩,hf1⟩:=Q5 HTHx.out 1 (by decide)
     obtain⟨⟨z2,hz2⟩,hf2⟩:=Q5 HTHx.out 2 (by decide)
     obtain⟨⟨z3,hz3⟩,hf3⟩:=Q5 HTHx.out 3 (by decide)
     go_wp2
     refine bodyPost_ret (Qr rfl _ rfl HL9.out) rfl ?_;rw[HE.out];exact⟨rfl,HB9.out⟩
    |false =>
     go_wp2_with fail
     refine(HSe _ HBd.out).out.mono ?_;rintro e ve ⟨rfl,hb⟩;have HBe:=hid (HBd.out.trans (hb.mono HBd.out.size));have HTHe:Hid (ve.there w.heap.size 0 4):=QJ HTHd.out hb HLTd.out;have HLTe:Hid (w.heap.size<ve.heap.size):=lt_of_lt_of_le HLTd.out hb.size;clear hb HSe;cases se with
     |true =>
      have HE:Hid (t=(kke,tte,wwe)):=HT.out;clear HT;go_wp2_with fail
      refine(HUe (by first|trivial|rfl) _ HBe.out).out.mono ?_
      rintro e xe ⟨rfl,hb⟩;have HBx:=hid (HBe.out.trans (hb.mono HBe.out.size));have HTHx:Hid (xe.there w.heap.size 0 4):=QJ HTHe.out hb HLTe.out;clear hb;have HL9:=hid (Qv (P:=prog) (T:=126) xe w.heap.size [.int .i64 kke,.int .i64 k,.int .i64 (tte),.bool wwe] HTHx.out (by kernel_rfl) underlying126 rfl)
      have HB9:=hid (Qe HBx.out w.heap.size (le_refl _) [.int .i64 kke,.int .i64 k,.int .i64 (tte),.bool wwe] 0);obtain⟨⟨z0,hz0⟩,hf0⟩:=Q5 HTHx.out 0 (by decide)
      obtain⟨⟨z1,hz1⟩,hf1⟩:=Q5 HTHx.out 1 (by decide)
      obtain⟨⟨z2,hz2⟩,hf2⟩:=Q5 HTHx.out 2 (by decide)
      obtain⟨⟨z3,hz3⟩,hf3⟩:=Q5 HTHx.out 3 (by decide)
      go_wp2
      refine bodyPost_ret (Qr rfl _ rfl HL9.out) rfl ?_;rw[HE.out];exact⟨rfl,HB9.out⟩
     |false =>
      go_wp2_with fail
      refine(HLD _ HBe.out).out.mono ?_;rintro e vf ⟨rfl,hb⟩;have HBf:=hid (HBe.out.trans (hb.mono HBe.out.size));have HTHf:Hid (vf.there w.heap.size 0 4):=QJ HTHe.out hb HLTe.out;have HLTf:Hid (w.heap.size<vf.heap.size):=lt_of_lt_of_le HLTe.out hb.size;clear hb HLD;by_cases hl0:0<ld
      ·have hl0i:(ld:Int) > 0:=by omega
       have HE:Hid (t=(kkf,ttf,wwf)):=by rw[Hid,HT.out];simp[hl0]
       clear HT;go_wp2_with fail
       refine(HUf _ HBf.out).out.mono ?_;rintro e xf ⟨rfl,hb⟩;have HBx:=hid (HBf.out.trans (hb.mono HBf.out.size));have HTHx:Hid (xf.there w.heap.size 0 4):=QJ HTHf.out hb HLTf.out;clear hb;have HL9:=hid (Qv (P:=prog) (T:=126) xf w.heap.size [.int .i64 kkf,.int .i64 k,.int .i64 (ttf),.bool wwf] HTHx.out (by kernel_rfl) underlying126 rfl)
       have HB9:=hid (Qe HBx.out w.heap.size (le_refl _) [.int .i64 kkf,.int .i64 k,.int .i64 (ttf),.bool wwf] 0);obtain⟨⟨z0,hz0⟩,hf0⟩:=Q5 HTHx.out 0 (by decide)
       obtain⟨⟨z1,hz1⟩,hf1⟩:=Q5 HTHx.out 1 (by decide)
       obtain⟨⟨z2,hz2⟩,hf2⟩:=Q5 HTHx.out 2 (by decide)
       obtain⟨⟨z3,hz3⟩,hf3⟩:=Q5 HTHx.out 3 (by decide)
       go_wp2
       refine bodyPost_ret (Qr rfl _ rfl HL9.out) rfl ?_;rw[HE.out];exact⟨rfl,HB9.out⟩
      ·have hl0i:¬(ld:Int) > 0:=by omega
       have HE:Hid (t=(11,k+1,false)):=by rw[Hid,HT.out];simp[hl0]
       clear HT;have HL9:=hid (Qv (P:=prog) (T:=126) vf w.heap.size [.int .i64 11,.int .i64 k,.int .i64 ((k:Int)+1),.bool false] HTHf.out (by kernel_rfl) underlying126 rfl)
       have HB9:=hid (Qe HBf.out w.heap.size (le_refl _) [.int .i64 11,.int .i64 k,.int .i64 ((k:Int)+1),.bool false] 0);obtain⟨⟨z0,hz0⟩,hf0⟩:=Q5 HTHf.out 0 (by decide)
       obtain⟨⟨z1,hz1⟩,hf1⟩:=Q5 HTHf.out 1 (by decide)
       obtain⟨⟨z2,hz2⟩,hf2⟩:=Q5 HTHf.out 2 (by decide)
       obtain⟨⟨z3,hz3⟩,hf3⟩:=Q5 HTHf.out 3 (by decide)
       go_wp2
       refine bodyPost_ret (Qr rfl _ rfl HL9.out) rfl ?_;rw[HE.out];exact⟨by simp[Q20],HB9.out⟩
theorem QgE(r:Int)(w:World):Calls prog 132 #[.int .i32 r] w fun e w'=>e=.returned (.bool (Q1O r))/\w=w':=by
 by_cases h1:r=60
 ·subst h1
  go_enter func132,ntmps132
  go_wp2
  go_ret
  exact⟨rfl,rfl⟩
 ·have h1b:(r != 60)=true:=by simpa using h1
  by_cases h2:r=38
  ·subst h2
   clear h1;go_enter func132,ntmps132
   go_wp2
   go_ret
   exact⟨rfl,rfl⟩
  ·have h2b:(r != 38)=true:=by simpa using h2
   have HE:Hid (Q1O r=(r != -1)):=by rw[Hid,Q1O,h1b,h2b,Bool.true_and,Bool.true_and]
   clear h1 h2;go_enter func132,ntmps132
   go_wp2
   go_ret
   exact⟨Q18 HE.out.symm,rfl⟩
theorem Qij(w:World):Q7p prog 132 #[] Q1O w:=fun W r _=>(QgE r W).mono fun _ _ ⟨h1,h2⟩=>⟨h1,h2 ▸ Below.refl _ _⟩
theorem Qiz:∀args w,(callFunc 132 args).run prog w=.ok (.enter 132 args) w:=enters_of func132 (by kernel_rfl) rfl
theorem Qjt(S:Nat->Prop)(A:Option Addr)(n c:Nat)(l:List Int)(k:Nat)(w:World)(hr:Rd w S 1 A n c (rc l))(hk:k<l.length)(hl9:l.length<=1000000000) :
  Calls prog 95 #[.slice A n c,.int .i64 k] w fun e w'=>e=.returned (.tuple #[Q20 (Qd l k) k,.bool true])/\Below w.heap.size w w':=by
 obtain rfl:=hr.rlen;have hle:=hr.le;have hmx:c<=9223372036854775807:=hr.max;by_cases h38:l[k]=38
 ·have HE:Qd l k=Q1e l k:=by rw[Qd,Q8m hk,h38];rfl
  rw[HE];exact QfC S A _ c l k w hr (by rw[List.getElem?_eq_getElem hk,h38]) hl9
 ·obtain⟨b,o,rfl,hc0⟩:=hr.rune hk
  have hca:=fun ob=>Q6O (ba w ob) hc0
  have hki:¬(k:Int) ≥ (l.length:Int):=by omega
  have hkj:(k:Int)<(l.length:Int):=by omega
  have HMK:=fun W (h:Below w.heap.size w W)=>hid (QfX S _ _ c l k W (hr.below h) hk hl9)
  have HMK:∀W,Below w.heap.size w W->Hid (Calls prog 129 #[.slice (some ⟨b,o,none⟩) l.length c,.int .i64 k] W fun e w'=>e=.returned (.agg #[.int .i64 (Q1s l k).1,.int .i64 k,.int .i64 (Q1s l k).2.1,.bool (Q1s l k).2.2])/\Below W.heap.size W w'):=HMK
  have HRN:=fun W (h:Below w.heap.size w W)=>(Q85 S _ l.length c l k _ #[] Q1O W Qiz (hr.below h) (Qij W))
  have hrn:Q2L Q1O l k=((l.drop k).takeWhile Q1O).length:=by rw[Q2L,if_neg (by omega),Int.toNat_natCast]
  rw[hrn]at HRN;have HRN:=fun W h=>hid (HRN W h)
  have hrl:=(List.takeWhile_sublist Q1O (l:=l.drop k)).length_le;rw[List.length_drop]at hrl;have HT:Hid (Qd l k=if l[k]=60 then Q1s l k else if l[k]=38 then Q1e l k else if l[k]=-1 then(11,k+1,false)else(1,k+((l.drop k).takeWhile Q1O).length,true)):=by rw[Hid,Qd,Q8m hk]
  clear hr hrn;generalize Qd l k=t at HT ⊢;generalize Q1s l k=mk at HMK HT;generalize ((l.drop k).takeWhile Q1O).length=rn at HRN HT hrl;obtain⟨mka,mkb,mkc⟩:=mk;generalize l[k]=r at hc0 hca HT h38;have h38b:(r == 38)=false:=by simpa using h38
  by_cases h60:r=60
  ·have HE:Hid (t=(mka,mkb,mkc)):=by rw[Hid,HT.out,if_pos h60]
   subst h60;clear HT h38 hc0 HRN;go_enter func95,ntmps95
   go_wp2_with fail
   have HTH0:=hid (Q2K w #[.int .i64 0,.int .i64 0,.int .i64 0,.bool false] 126);have HB0:=hid (ba w (.cells #[.int .i64 0,.int .i64 0,.int .i64 0,.bool false] 126));have HSZ:Hid (w.heap.size<(w.alloc (.cells #[.int .i64 0,.int .i64 0,.int .i64 0,.bool false] 126)).heap.size):=by simp[Hid]
   generalize w.alloc (.cells #[.int .i64 0,.int .i64 0,.int .i64 0,.bool false] 126)=W0 at HTH0 HB0 HSZ;refine(HMK _ HB0.out).out.mono ?_;rintro e w1 ⟨rfl,hb1⟩;have HB1:=hid (HB0.out.trans (hb1.mono HB0.out.size));have HTH1:Hid (w1.there w.heap.size 0 4):=QJ HTH0.out hb1 HSZ.out;clear hb1 HTH0 HSZ;have HL9:=hid (Qv (P:=prog) (T:=126) w1 w.heap.size [.int .i64 mka,.int .i64 k,.int .i64 (mkb),.bool mkc] HTH1.out (by kernel_rfl) underlying126 rfl)
   have HB9:=hid (Qe HB1.out w.heap.size (le_refl _) [.int .i64 mka,.int .i64 k,.int .i64 (mkb),.bool mkc] 0);obtain⟨⟨z0,hz0⟩,hf0⟩:=Q5 HTH1.out 0 (by decide)
   obtain⟨⟨z1,hz1⟩,hf1⟩:=Q5 HTH1.out 1 (by decide)
   obtain⟨⟨z2,hz2⟩,hf2⟩:=Q5 HTH1.out 2 (by decide)
   obtain⟨⟨z3,hz3⟩,hf3⟩:=Q5 HTH1.out 3 (by decide)
   go_wp2
   refine bodyPost_ret (Q42 rfl _ rfl HL9.out) rfl ?_;rw[HE.out];exact⟨rfl,HB9.out⟩
  ·have h60b:(r == 60)=false:=by simpa using h60
   by_cases h1:r=-1
   ·have HE:Hid (t=(11,k+1,false)):=by rw[Hid,HT.out,if_neg h60,if_neg h38,if_pos h1]
    subst h1;clear HT h38 h60 hc0 HRN HMK;have HL9:=hid (Qln (P:=prog) (T:=126) w [.int .i64 11,.int .i64 k,.int .i64 ((k:Int)+1),.bool false] (by kernel_rfl) underlying126 rfl)
    have HB9:=hid (ba w (.cells #[.int .i64 11,.int .i64 k,.int .i64 ((k:Int)+1),.bool false] 126));go_enter func95,ntmps95
    go_wp2
    refine bodyPost_ret (Q42 rfl _ rfl HL9.out) rfl ?_;rw[HE.out];exact⟨by simp[Q20],HB9.out⟩
   ·have h1b:(r == -1)=false:=by simpa using h1
    have HE:Hid (t=(1,k+rn,true)):=by rw[Hid,HT.out,if_neg h60,if_neg h38,if_neg h1]
    clear HT h38 h60 h1 hc0 HMK;go_enter func95,ntmps95
    go_wp2_with fail
    have HTH0:=hid (Q2K w #[.int .i64 0,.int .i64 0,.int .i64 0,.bool false] 126);have HB0:=hid (ba w (.cells #[.int .i64 0,.int .i64 0,.int .i64 0,.bool false] 126));have HSZ:Hid (w.heap.size<(w.alloc (.cells #[.int .i64 0,.int .i64 0,.int .i64 0,.bool false] 126)).heap.size):=by simp[Hid]
    generalize w.alloc (.cells #[.int .i64 0,.int .i64 0,.int .i64 0,.bool false] 126)=W0 at HTH0 HB0 HSZ;refine(HRN _ HB0.out).out.mono ?_;rintro e w1 ⟨rfl,hb1⟩;have HB1:=hid (HB0.out.trans (hb1.mono HB0.out.size));have HTH1:Hid (w1.there w.heap.size 0 4):=QJ HTH0.out hb1 HSZ.out;clear hb1 HTH0 HSZ;have HL9:=hid (Qv (P:=prog) (T:=126) w1 w.heap.size [.int .i64 1,.int .i64 k,.int .i64 ((k:Int)+(rn:Int)),.bool true] HTH1.out (by kernel_rfl) underlying126 rfl)
    have HB9:=hid (Qe HB1.out w.heap.size (le_refl _) [.int .i64 1,.int .i64 k,.int .i64 ((k:Int)+(rn:Int)),.bool true] 0);obtain⟨⟨z0,hz0⟩,hf0⟩:=Q5 HTH1.out 0 (by decide)
    obtain⟨⟨z1,hz1⟩,hf1⟩:=Q5 HTH1.out 1 (by decide)
    obtain⟨⟨z2,hz2⟩,hf2⟩:=Q5 HTH1.out 2 (by decide)
    obtain⟨⟨z3,hz3⟩,hf3⟩:=Q5 HTH1.out 3 (by decide)
    go_wp2
    refine bodyPost_ret (Q42 rfl _ rfl HL9.out) rfl ?_;rw[HE.out];exact⟨by simp[Q20],HB9.out⟩
end
section
open Go.RowKit Go.Lib
theorem Qfy(l:List Int):∀(n k:Nat),l.length-k<=n->k<=l.length->k<=(Q2m l k).1/\(Q2m l k).1<=l.length:=by
 intro n;induction n with
 |zero =>
  intro k h hk;rw[Q94 l k (by omega)]
  simp only;omega
 |succ n ih =>
  intro k h hk;by_cases jB:k<l.length
  ·by_cases h1:l[k]=62
   ·rw[QeU l k jB h1];simp only;omega
   ·by_cases h2:l[k]=60
    ·rw[QdH l k jB h2];simp only;omega
    ·have:=ih (k+1) (by omega) (by omega)
     rw[QaA l k jB h1 h2];omega
  ·rw[Q94 l k jB];simp only;omega
theorem Qdy(l:List Int):∀(n k:Nat)(ok:Bool),l.length-k<=n->k<=l.length->k<=(Q2l l k ok).1/\(Q2l l k ok).1<=l.length:=by
 intro n;induction n with
 |zero =>
  intro k ok h hk;rw[Q4D l k ok (by omega)]
  simp only;omega
 |succ n ih =>
  intro k ok h hk;by_cases jB:k<l.length/\ok=true
  ·obtain⟨jB,rfl⟩:=jB
   by_cases h1:l[k]=62
   ·rw[Q8H l k jB h1];simp only;omega
   ·cases h2:Q2Q l[k]with
    |true =>
     have:=Q2D l k jB
     have:=ih (Q16 l k).1 (Q16 l k).2 (by omega) (by omega)
     rw[Q8W l k jB h1 h2];omega
    |false =>
     by_cases h3:l[k]=91
     ·have:=Q7B l k jB
      have:=ih (Q7t l k).1 (Q7t l k).2 (by omega) (by omega)
      rw[Q8I l k jB h3];omega
     ·have:=ih (k+1) true (by omega) (by omega)
      rw[Q7m l k jB h1 h2 h3];omega
  ·rw[Q4D l k ok jB];simp only;omega
theorem Qbt(l:List Int)(k:Nat)(hk:k<l.length):k<(Q1s l k).2.1/\(Q1s l k).2.1<=l.length:=by
 unfold Q1s;split
 ·exact Q4f l _ k _ _ hk (by decide)
 ·split
  ·exact Q4f l _ k _ _ hk (by decide)
  ·split
   ·exact Q4f l _ k _ _ hk (by decide)
   ·split
    ·rename_i h
     have h9:=Q10 l k _ (by omega) h
     have h9:k+9<=l.length:=by simpa using h9
     have:=Qdy l l.length (k+9) true (by omega) (by omega)
     unfold Q3F;simp only;omega
    ·split
     ·rename_i h
      have h2:=Q10 l k _ (by omega) h
      have h2:k+2<=l.length:=by simpa using h2
      have:=Qfy l l.length (k+2) (by omega) (by omega)
      unfold Q3l;simp only;omega
     ·split
      ·have h:=Q2y l true l.length (k+1) (by omega) (by omega)
       unfold Q1m;split
       ·simp only;omega
       ·rename_i hb
        have:=h.2.2 (by simpa using hb)
        split<;>(simp only;omega)
      ·simp only;omega
theorem Q2a(l:List Int)(k:Nat)(hk:k<l.length):k<(Qd l k).2.1/\(Qd l k).2.1<=l.length:=by
 unfold Qd;rw[Q8m hk];split
 ·exact Qbt l k hk
 ·split
  ·exact⟨Qmd l k,Qnf l k hk⟩
  ·split
   ·simp only;omega
   ·rename_i h1 h2 h3
    have hp:Q1O l[k]=true:=by simp[Q1O,h1,h2,h3]
    have hs:=(List.takeWhile_sublist Q1O (l:=l.drop k)).length_le;rw[List.length_drop]at hs;rw[List.drop_eq_getElem_cons hk,List.takeWhile_cons,hp]at hs ⊢;simp only[if_true,List.length_cons]at hs ⊢;omega
def Q4Q(l:List Int)(k:Nat):List ((Nat×Nat×Bool)×Nat):=if h:k<l.length then(Qd l k,k)::Q4Q l (Qd l k).2.1 else []
termination_by l.length-k
decreasing_by
 have:=Q2a l k h;omega
theorem QbH(l:List Int)(k:Nat)(h:k<l.length):Q4Q l k=(Qd l k,k)::Q4Q l (Qd l k).2.1:=by
 conv=>lhs;rw[Q4Q]
 rw[dif_pos h]
theorem QcH(l:List Int)(k:Nat)(h:¬k<l.length):Q4Q l k=[]:=by rw[Q4Q,dif_neg h]
end
section
open Go.RowKit Go.Lib Tryz
theorem QhG:(prog.info? 149).map (·.size)=some 2:=by kernel_rfl
theorem QoL:liesAt prog prog.depth 149 (2 / prog.cellsOf 149) 0 149 1=true:=by kernel_rfl
theorem Qdr:prog.cellsOf 5=1:=by kernel_rfl
theorem Qnm(b:Nat)(w:World)(h0:w.cell? ⟨b,0,none⟩=some (.pointer (some ⟨b,0,none⟩))) :
  Calls prog 103 #[.pointer (some ⟨b,0,none⟩)] w fun e w'=>e=.returned (.tuple #[])/\w'=w:=by
 obtain⟨j,hj,_⟩:=Option.map_eq_some_iff.1 QhG;go_enter func103,ntmps103
 go_wp2
 rw[Lib.run_neq_ptr_same w _ underlying147 hj];go_wp2
 go_end0
 exact⟨rfl,rfl⟩
theorem QlC(b:Nat)(w:World)(h0:w.cell? ⟨b,0,none⟩=some (.pointer none))(hsh:w.shape? b=some (149,2))(hfz:w.frozen? ⟨b,0,none⟩=false) :
  Calls prog 103 #[.pointer (some ⟨b,0,none⟩)] w fun e w'=>e=.returned (.tuple #[])/\w'=w.setCell ⟨b,0,none⟩ (.pointer (some ⟨b,0,none⟩)):=by
 obtain⟨j,hj,hjs⟩:=Option.map_eq_some_iff.1 QhG;go_enter func103,ntmps103
 go_wp2
 rw[Lib.run_to_unsafe w ⟨b,0,none⟩ underlying147 underlying220 hj (by rw[hjs];decide) hsh (Nat.zero_lt_succ 1)]
 simp only[Result.andThen];rw[Oper.upon_value];go_wp2
 rw[run_callFunc_extern func139 (by kernel_rfl) (by kernel_rfl) (by kernel_rfl) (e:=Extern.AbiNoEscape.same) (by kernel_rfl)]
 rw[Lib.run_noEscape];simp only[Result.andThen];rw[Oper.upon_value];go_wp2
 rw[Lib.run_from_unsafe w ⟨b,0,none⟩ underlying220 underlying147 hj hsh QoL];simp only[Result.andThen];rw[Oper.upon_value];go_wp2
 go_end0
 exact⟨rfl,rfl⟩
def Sb(B b:Nat)(xs:List UInt8)(w:World):Prop:=Lib.IsBuilder 149 5 B b (bc xs) w
theorem Qpi(B b:Nat)(xs:List UInt8)(w:World)(h:Sb B b xs w) :
  Calls prog 103 #[.pointer (some ⟨b,0,none⟩)] w fun e w'=>e=.returned (.tuple #[])/\Lib.BuilderAt 149 5 B b (.pointer (some ⟨b,0,none⟩)) (bc xs) w'/\Below B w w'/\∀k,k≠b->w'.heap[k]?=w.heap[k]?:=by
 rcases h with h|h
 ·refine(QlC b w h.cell0 h.shape h.frozen0).mono ?_
  rintro e w' ⟨rfl,rfl⟩;exact⟨rfl,h.used _,(Below.refl B w).setCell (p:=⟨b,0,none⟩) h.1 _,fun k hk=>Below.heap_setCell _ _ _ _ hk⟩
 ·refine(Qnm b w h.cell0).mono ?_
  rintro e w' ⟨rfl,rfl⟩;exact⟨rfl,h,Below.refl B _,fun _ _=>rfl⟩
theorem Qep(S:Nat->Prop)(A:Option Addr)(n c B b:Nat)(xs ys:List UInt8)(w:World)(h:Sb B b xs w)(hr:Rd w S 1 A n c (bc ys))(hS:¬S b)(hlen:xs.length+ys.length<=1000000000)(hBw:B<=w.heap.size) :
  Calls prog 64 #[.pointer (some ⟨b,0,none⟩),.slice A n c] w fun e w'=>e=.returned (.tuple #[.int .i64 n,.nilIface])/\Sb B b (xs++ys) w'/\Below B w w':=by
 have hn:n=ys.length:=by have:=hr.len;simpa using this.symm
 subst hn;have HR:=hid hr;have hcm:c<=9223372036854775807:=hr.max;have hle:=hr.le;clear hr;go_enter func64,ntmps64
 go_wp2_with (go_at_call 103;refine(Qpi B b xs w h).mono ?_);rintro e w1 ⟨rfl,h1,hb1,hk1⟩;obtain⟨hB,v,hbk,hown,hne⟩:=h1;have c0:w1.cell? ⟨b,0,none⟩=some (.pointer (some ⟨b,0,none⟩)):=by rw[cell_of_heap hbk];rfl
 have c1:w1.cell? ⟨b,1,none⟩=some v:=by rw[cell_of_heap hbk];rfl
 have HR1:=hid (HR.out.keep fun k hk _=>hk1 k (fun e=>hS (e ▸ hk)))
 have hs1:B<=w1.heap.size:=by have:=hb1.size;omega
 have hxl:(bc xs).length=xs.length:=by simp
 rw[hxl]at hown;obtain⟨A0,c2,rfl,hro⟩:=Q2q hown;have hc2m:c2<=9223372036854775807:=hro.max;have HO:=hid hown;clear hown hro hk1 HR h;go_wp2_with (at_builtin;refine Qd1 _ rfl (.tmp 12) (.tmp 13) rfl B _ _ _ rfl HO.out S _ _ _ ys rfl HR1.out (by omega) hs1 ?_)
 intro A4 c4 w4 hown4 hg4 hc4
 have hlt:b<w1.heap.size:=by
  rcases Nat.lt_or_ge b w1.heap.size with h'|h'
  ·exact h'
  ·simp[Array.getElem?_eq_none h']at hbk
 have hb2:w4.heap[b]?=some (.cells #[.pointer (some ⟨b,0,none⟩),.slice A0 xs.length c2] 149 (0,0)):=by
  rw[hg4.block b hlt (fun e=>hne e.symm)]
  exact hbk
 have d0:w4.cell? ⟨b,0,none⟩=some (.pointer (some ⟨b,0,none⟩)):=by rw[cell_of_heap hb2];rfl
 have d1:w4.cell? ⟨b,1,none⟩=some (.slice A0 xs.length c2):=by rw[cell_of_heap hb2];rfl
 have f1:w4.frozen? ⟨b,1,none⟩=false:=Lib.frozen_of_heap hb2 1;have HB4:=hid (Q6J hb1 hs1 HO.out hg4);have HO4:=hid hown4;clear hown4 hg4;go_wp2
 go_ret2
 refine⟨rfl,.inr ?_,HB4.out.setCell (p:=⟨b,1,none⟩) hB _⟩;exact Lib.BuilderAt.put hB hb2 (by simpa[bc]using HO4.out) (by decide)
theorem QcU(B b:Nat)(l:List UInt8)(w:World)(h:Sb B b l w)(h0:l≠[]) :
  Calls prog 66 #[.pointer (some ⟨b,0,none⟩)] w fun e w'=>e=.returned (.string ⟨l.toArray⟩)/\Below B w w':=by
 obtain⟨p,hB,v,hbk,hown,hne⟩:∃p,Lib.BuilderAt 149 5 B b p (bc l) w:=by
  rcases h with h|h
  ·exact⟨_,h⟩
  ·exact⟨_,h⟩
 have hl0:l.length≠0:=by simpa using h0
 have hxl:(bc l).length=l.length:=by simp
 rw[hxl]at hown
 obtain⟨g,cap,cur,rfl,hbg,hg,hnc,hcm,hcs,htake⟩:∃g cap cur,v=.slice (some ⟨g,0,none⟩) l.length cap/\B<=g/\w.heap[g]?=some (.cells cur 5 (0,0))/\l.length<=cap/\cap<=maxLen/\cur.size=cap * 1/\cur.toList.take (l.length * 1)=bc l:=by
  rcases hown.2 with ⟨_,hz⟩|⟨g,cap,cur,hv,r⟩
  ·exact absurd hz hl0
  ·exact⟨g,cap,cur,hv,r⟩
 have c1:w.drew.cell? ⟨b,1,none⟩=some (.slice (some ⟨g,0,none⟩) l.length cap):=by
  have:w.drew.heap[b]?=some (.cells #[p,.slice (some ⟨g,0,none⟩) l.length cap] 149 (0,0)):=hbk
  rw[cell_of_heap this];rfl
 have hSD:(Builtin.unsafeSliceData_ #[22] 191 #[.slice (some ⟨g,0,none⟩) l.length cap]).run prog w.drew=.ok (.pointer (some ⟨g,0,none⟩)) w.drew :=
  Lib.run_unsafeSliceData_row _ _ _ _ _ _ (by omega)
 have hUS:(Builtin.unsafeString_ #[191,3] 9 #[.pointer (some ⟨g,0,none⟩),.int .i64 l.length]).run prog w.drew=.ok (.string ⟨l.toArray⟩) (w.drew.freeze ⟨g,0,none⟩ l.length):=by
  refine Lib.run_unsafeString_row w.drew 191 3 9 5 underlying191 Qdr g cur.size (by have hg':w.drew.heap[g]?=some (.cells cur 5 (0,0)):=hg;simp[World.shape?,hg']) l h0 (by omega) (by unfold maxLen at hcm;omega) ?_
  intro j x hx;have:=hown.cells (g:=g) rfl j (.int .u8 x.toNat) (by simp[bc,hx])
  exact this
 go_enter func66,ntmps66
 go_wp2
 go_region
 all_goals (go_wp2;go_ret;exact⟨rfl,Lib.below_freeze (Below.drew (Below.refl B w)) (p:=⟨g,0,none⟩) hbg _⟩)
def Q3h(l:List Int):List UInt8:=l.flatMap fun x=>if x=-1 then []else Q1D [x]
theorem Qih(l:List Int){k:Nat}(h:k<l.length):Q3h (l.take (k+1))=Q3h (l.take k)++(if l[k]=-1 then []else Q1D [l[k]]):=by
 rw[Q3h,Q3h,List.take_succ_eq_append_getElem h,List.flatMap_append];simp
theorem QaS(l:List Int):(Q3h l).length<=4 * l.length:=by
 induction l with
 |nil=>exact zero_le _
 |cons x r ih =>
  have h1:(if x=-1 then([]:List UInt8)else Q1D [x]).length<=4:=by
   split
   ·exact zero_le _
   ·have:=Q7G [x];simpa using this
  have e:Q3h (x::r)=(if x=-1 then []else Q1D [x])++Q3h r:=rfl;rw[e,List.length_append,List.length_cons];omega
theorem Sb.below{B b:Nat}{xs:List UInt8}{w w':World}(h:Sb B b xs w)(hb:Below w.heap.size w w'):Sb B b xs w':=by
 have key:∀p,Lib.BuilderAt 149 5 B b p (bc xs) w->Lib.BuilderAt 149 5 B b p (bc xs) w':=by
  rintro p ⟨hB,v,hbk,hown,hne⟩;have hlt:b<w.heap.size:=Lib.BuilderAt.lt ⟨hB,v,hbk,hown,hne⟩;exact⟨hB,v,by rw[hb.block b hlt];exact hbk,Qcf hown hb,hne⟩
 exact h.imp (key _) (key _)
theorem Sb.lt{B b:Nat}{xs:List UInt8}{w:World}(h:Sb B b xs w):b<w.heap.size:=by
 rcases h with h|h
 ·exact h.lt
 ·exact h.lt
theorem Qo3(A:Option Addr)(n c i j:Nat)(w:World)(hij:i<=j)(hj:j<=n) :
  Calls prog 63 #[.agg #[.int .i64 0,.int .i64 0,.slice A n c,.slice none 0 0],.int .i64 i,.int .i64 j] w fun e w'=>e=.returned (.bool true)/\Below w.heap.size w w':=by
 go_enter func63,ntmps63
 go_wp2
 go_ret
 exact⟨rfl,(Below.refl _ w).alloc (le_refl _) _⟩
theorem QeQ(S:Nat->Prop)(A:Option Addr)(n c:Nat)(l:List Int)(i j:Nat)(w:World)(hr:Rd w S 1 A n c (rc l))(hij:i<=j)(hj:j<=l.length)(hl:l.length<=1000000)(hne:Q3h ((l.drop i).take (j-i))≠[]) :
  Calls prog 33 #[.agg #[.int .i64 0,.int .i64 0,.slice A n c,.slice none 0 0],.int .i64 i,.int .i64 j] w fun e w'=>e=.returned (.string ⟨(Q3h ((l.drop i).take (j-i))).toArray⟩)/\Below w.heap.size w w':=by
 obtain rfl:=hr.rlen;have hle:=hr.le;have hmx:c<=9223372036854775807:=hr.max;obtain⟨A2,hr2,hcut⟩:=hr.cutLH (P:=prog) (t:=28) underlying28 sizeOf21 hij hj;have hrc:((rc l).drop (i * 1)).take ((j-i) * 1)=rc ((l.drop i).take (j-i)):=by simp[rc,List.map_take,List.map_drop]
 rw[hrc]at hr2;obtain⟨s,hs⟩:∃s,s=(l.drop i).take (j-i):=⟨_,rfl⟩;rw[<-hs]at hr2 hne ⊢;have hsl:s.length=j-i:=by rw[hs,List.length_take,List.length_drop];omega
 have HR:=hid hr2;have HC:=hid hcut;clear hr hr2 hrc hs hcut;go_enter func33,ntmps33
 go_wp2_with (go_at_call 63;refine(Qo3 _ _ _ _ _ _ hij hj).mono ?_);rintro e w1 ⟨rfl,hb1⟩;have HB1:=hid (bt (ba w _) hb1);have hc0:w1.cell? ⟨w.heap.size,2,none⟩=some (.slice A l.length c):=Q6O hb1 (QkR w _ _ 2 rfl);have hlt0:w.heap.size<w1.heap.size:=World.block_lt_of_cell? w1 _ hc0;have hc1:(w1.alloc (.cells #[.pointer none,.slice none 0 0] 149)).cell? ⟨w.heap.size,2,none⟩=some (.slice A l.length c):=Q6O ((Below.refl _ w1).alloc (le_refl _) _) hc0;have HSB:Hid (Sb w1.heap.size w1.heap.size [] (w1.alloc (.cells #[.pointer none,.slice none 0 0] 149))):=Lib.fresh_isBuilder 149 5 w1;have hcut:=HC.out;clear hb1 hc0;go_wp2
 clear hcut
 go_loopw [21] (fun q wr=>∃(k:Nat),k<=s.length/\q=.int .i64 k/\Hid (Sb w1.heap.size w1.heap.size (Q3h (s.take k)) wr)/\Hid (Below w1.heap.size w1 wr))
  (fun q _=>s.length-(RowKit.intOf q).toNat)
 case atStart=>exact⟨0,zero_le _,rfl,HSB.out,ba w1 _⟩
 case round =>
  obtain⟨k,hk,rfl,HO,HB⟩:=hrel;have hsz:=HB.out.size;have hblt:=HO.out.lt;have hfl:=QaS (s.take k);rw[List.length_take]at hfl;by_cases hlt:k<s.length
  ·obtain⟨b,u,rfl,hc2⟩:=(HR.out.below (bt HB1.out HB.out)).rune hlt
   have HST:=hid (Qih s hlt);generalize s[k]=r at hc2 HST;by_cases hb:r=-1
   ·have hS2:Q3h (s.take (k+1))=Q3h (s.take k):=by rw[HST.out,if_pos hb,List.append_nil]
    have HST2:=hid hS2;clear HST hS2;subst hb;go_wp2
    go_roundw
    case rel=>exact⟨k+1,by omega,by go_num,by rw[HST2.out];exact HO.out,HB.out⟩
    case measure=>simp[RowKit.intOf];omega
   ·have hS2:Q3h (s.take (k+1))=Q3h (s.take k)++Q1D [r]:=by rw[HST.out,if_neg hb]
    have HST2:=hid hS2;clear HST hS2;have hbl:=Q7G [r];simp only[List.length_singleton]at hbl;have hsa:(wr.alloc (.cells #[.int .i32 r] 21)).heap.size=wr.heap.size+1:=by simp
    go_wp2_with fail
    refine(QiX _ _ 1 1 [r] _ (Rd.litN wr wr.heap.size rfl _ #[.int .i32 r] 1 1 rfl (by decide)) (by simp)).mono ?_
    rintro e w2 ⟨v,rfl,⟨n2,hown⟩,hb2⟩;have hn2:=Q9P hown;obtain⟨A3,c3,rfl,hro⟩:=Q2q hown;have HO2:=hid ((HO.out.below (ba wr _)).below hb2);have HB2:=hid (bb (bb HB.out (ba wr _) hsz) hb2 (by omega))
    have hsz2:=HB2.out.size;have HRO:=hid hro;have hc3:c3<=9223372036854775807:=hro.max;subst hn2;clear hown hb2 hro;go_wp2_with fail
    refine(Qep _ A3 _ c3 w1.heap.size w1.heap.size (Q3h (s.take k)) (Q1D [r]) w2 HO2.out HRO.out (by omega) (by omega) hsz2).mono ?_
    rintro e w3 ⟨rfl,h3,hb3⟩;have HO3:=hid h3;have HB3:=hid (HB2.out.trans hb3);clear h3 hb3;go_wp2
    go_roundw
    case rel=>exact⟨k+1,by omega,by go_num,by rw[HST2.out];exact HO3.out,HB3.out⟩
    case measure=>simp[RowKit.intOf];omega
  ·have e:s.take k=s:=List.take_of_length_le (by omega)
   rw[e]at HO;go_wp2_with fail
   refine(QcU w1.heap.size w1.heap.size (Q3h s) wr HO.out hne).mono ?_;rintro e w3 ⟨rfl,hb3⟩;have HB3:=hid (HB.out.trans hb3);clear hb3;go_wp2
   go_ret
   exact⟨rfl,HB1.out.trans (HB3.out.mono HB1.out.size)⟩
end
section
open Go.RowKit Go.Lib
end
section
open Go.RowKit Tryz
def QaN(r:Int):Bool:=r == 9||r == 10||r == 13||r == 32
theorem QgF(r:Int):QaN r=Qb r:=by
 unfold QaN Qb;cases(r == 9)<;>cases(r == 10)<;>cases(r == 13)<;>cases(r == 32)<;>rfl
theorem QgB(r:Int)(w:World):Calls prog 122 #[.int .i32 r] w fun e w'=>e=.returned (.bool (Qb r))/\w=w':=by
 rw[<-QgF];go_enter func122,ntmps122
 go_wp2
 all_goals (go_ret;exact⟨Q18 (by simp[QaN, *]),rfl⟩)
end
section
open Go.RowKit Go.Lib
theorem Rd.setB{w:World}{S:Nat->Prop}{n c:Nat}{xs:List Value}{b o:Nat}(h:Rd w S 1 (some ⟨b,o,none⟩) n c xs){k:Nat}(hk:k<n)(v:Value) :
  Rd (w.setCell ⟨b,o+k,none⟩ v) S 1 (some ⟨b,o,none⟩) n c (xs.set k v):=by
 have jH:=h.len;refine⟨by simpa using h.len,h.le,h.max,(fun e=>by cases e),fun h0=>?_⟩
 obtain⟨b',o',e,hS,hc⟩:=h.at_ h0;injection e with e
 injection e with e1 e2
 subst e1 e2;refine⟨b,o,rfl,hS,fun j u hu=>?_⟩
 have qN:k<xs.length:=by omega
 by_cases hj:k=j
 ·subst hj
  rw[List.getElem?_set_self qN]at hu;injection hu with hu
  subst hu;exact World.cell?_setCell_same _ _ _ (hc k _ (List.getElem?_eq_getElem qN))
 ·rw[List.getElem?_set_ne hj]at hu
  rw[World.cell?_setCell_other]
  ·exact hc j u hu
  ·intro e
   injection e with _ e
   omega
