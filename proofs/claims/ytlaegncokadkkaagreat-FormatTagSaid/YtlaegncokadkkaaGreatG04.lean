/- Lemmas, conditions told -/
import Derived.Test.YtlaegncokadkkaaGreatG02
import Derived.Lib.Bytealg
import Derived.Lib.Builder
import Derived.Lib.UnsafeStr
set_option maxRecDepth 99999
set_option maxHeartbeats 0
set_option linter.unusedSimpArgs false
set_option linter.unusedVariables false
namespace Go.Proofs.YtlaegncokadkkaaGreat
open Lib(hid cell_of_heap)
open Nat(le_refl lt_of_lt_of_le zero_le)
section
open Go.RowKit Go.Lib Tryz
def Q1d(l:List Int)(kd k skip:Nat)(bs:List UInt8):Nat×Nat×Bool:=match Q45 l (min (k+skip) l.length) l.length bs with
 |none=>(kd,l.length,false)
 |some j=>(kd,j+bs.length,true)
def Q3K(l:List Int)(k:Nat):Nat×Bool:=if h:k<l.length then(if l[k]=62 then(k+1,true)else if l[k]=60 then(k,false)else Q3K l (k+1))else(l.length,false)
termination_by l.length-k
def Q5t(l:List Int)(k:Nat):Nat×Nat×Bool:=(10,(Q3K l (k+2)).1,(Q3K l (k+2)).2)
def Q2F(l:List Int)(k:Nat):Nat×Nat×Bool :=
 if(QD l true (k+1)).2=false then(8,(QD l true (k+1)).1,false)
 else if l[(QD l true (k+1)).1-1]?=some 47 then(9,(QD l true (k+1)).1+1,true)else(8,(QD l true (k+1)).1+1,true)
theorem QdH(l:List Int)(k:Nat)(h:k<l.length)(hq:l[k]=62):Q3K l k=(k+1,true):=by rw[Q3K,dif_pos h,if_pos hq]
theorem Qd9(l:List Int)(k:Nat)(h:k<l.length)(hq:l[k]=60):Q3K l k=(k,false):=by rw[Q3K,dif_pos h,if_neg (by rw[hq];decide),if_pos hq]
theorem Qa1(l:List Int)(k:Nat)(h:k<l.length)(h1:l[k]≠62)(h2:l[k]≠60):Q3K l k=Q3K l (k+1):=by rw[Q3K,dif_pos h,if_neg h1,if_neg h2]
theorem Q8s(l:List Int)(k:Nat)(h:¬k<l.length):Q3K l k=(l.length,false):=by rw[Q3K,dif_neg h]
theorem Q5O(S:Nat->Prop)(A:Option Addr)(n c:Nat)(l:List Int)(kd k skip:Nat)(s:ByteArray)(w:World)(hr:Rd w S 1 A n c (rc l))(hk:k<=l.length)(hsk:skip<=1000)(hl9:l.length<=1000000000)(hs9:s.size<=1000) :
  Calls prog 173 #[.slice A n c,.int .i64 kd,.int .i64 k,.int .i64 skip,.string s] w fun e w'=>e=.returned (Q1t (Q1d l kd k skip s.data.toList) k)/\Below w.heap.size w w':=by
 obtain rfl:=hr.rlen;have hle:=hr.le;have hmx:c<=9223372036854775807:=hr.max;have HR:=hid hr;clear hr
 have hm:∀ts t W,(Builtin.min_ ts t #[.int .i64 ((k:Int)+(skip:Int)),.int .i64 (l.length:Int)]).run prog W=.ok (.int .i64 (min (k+skip) l.length:Nat)) W:=fun ts t W=>by
  rw[run_min_int2];congr 2
  split<;>omega
 have HF:=fun W (h:Below w.heap.size w W)=>hid (Qgu S A l.length c l (min (k+skip) l.length) l.length s W (HR.out.below h) (by omega) (le_refl _) hl9 (by omega))
 have HT:Hid (Q1d l kd k skip s.data.toList=match Q45 l (min (k+skip) l.length) l.length s.data.toList with
  |none=>(kd,l.length,false)
  |some j=>(kd,j+s.data.toList.length,true)):=rfl
 have hfl:∀j,Q45 l (min (k+skip) l.length) l.length s.data.toList=some j->j<=l.length:=fun j h=>by
  rw[Q45,List.find?_range'_eq_some]at h;have:=List.mem_range'_1.1 h.2.1
  omega
 have HSL:=hid (show s.data.toList.length=s.size by simp)
 generalize Q1d l kd k skip s.data.toList=t at HT ⊢;generalize Q45 l (min (k+skip) l.length) l.length s.data.toList=q at HF HT hfl;generalize min (k+skip) l.length=m2 at hm HF;cases q with
 |none =>
  have HE:Hid (t=(kd,l.length,false)):=HT.out;clear HT hfl;go_enter func173,ntmps173
  go_wp2_with fail
  have HTH0:=hid (Q29 w #[.int .i64 0,.int .i64 0,.int .i64 0,.bool false] 178);have HB0:=hid (ba w (.cells #[.int .i64 0,.int .i64 0,.int .i64 0,.bool false] 178));have HSZ:Hid (w.heap.size<(w.alloc (.cells #[.int .i64 0,.int .i64 0,.int .i64 0,.bool false] 178)).heap.size):=by simp[Hid]
  generalize w.alloc (.cells #[.int .i64 0,.int .i64 0,.int .i64 0,.bool false] 178)=W0 at HTH0 HB0 HSZ;refine(HF _ HB0.out).out.mono ?_;rintro e w1 ⟨rfl,hb1⟩;have HB1:=hid (HB0.out.trans (hb1.mono HB0.out.size));have HTH1:Hid (w1.there w.heap.size 0 4):=Qr HTH0.out hb1 HSZ.out;clear hb1 HTH0 HSZ;have HL9:=hid (Qk (P:=prog) (T:=178) w1 w.heap.size [.int .i64 kd,.int .i64 k,.int .i64 (l.length),.bool false] HTH1.out (by kernel_rfl) underlying178 rfl)
  have HB9:=hid (Qb HB1.out w.heap.size (le_refl _) [.int .i64 kd,.int .i64 k,.int .i64 (l.length),.bool false] 0);obtain⟨⟨z0,hz0⟩,hf0⟩:=Q2 HTH1.out 0 (by decide)
  obtain⟨⟨z1,hz1⟩,hf1⟩:=Q2 HTH1.out 1 (by decide)
  obtain⟨⟨z2,hz2⟩,hf2⟩:=Q2 HTH1.out 2 (by decide)
  obtain⟨⟨z3,hz3⟩,hf3⟩:=Q2 HTH1.out 3 (by decide)
  go_wp2
  refine bodyPost_ret (Qg rfl _ rfl HL9.out) rfl ?_;rw[HE.out];exact⟨by simp[Q1t],HB9.out⟩
 |some j =>
  have HE:Hid (t=(kd,j+s.size,true)):=by rw[Hid,<-HSL.out];exact HT.out
  have hfl:=hfl j rfl;clear HT;go_enter func173,ntmps173
  go_wp2_with fail
  have HTH0:=hid (Q29 w #[.int .i64 0,.int .i64 0,.int .i64 0,.bool false] 178);have HB0:=hid (ba w (.cells #[.int .i64 0,.int .i64 0,.int .i64 0,.bool false] 178));have HSZ:Hid (w.heap.size<(w.alloc (.cells #[.int .i64 0,.int .i64 0,.int .i64 0,.bool false] 178)).heap.size):=by simp[Hid]
  generalize w.alloc (.cells #[.int .i64 0,.int .i64 0,.int .i64 0,.bool false] 178)=W0 at HTH0 HB0 HSZ;refine(HF _ HB0.out).out.mono ?_;rintro e w1 ⟨rfl,hb1⟩;have HB1:=hid (HB0.out.trans (hb1.mono HB0.out.size));have HTH1:Hid (w1.there w.heap.size 0 4):=Qr HTH0.out hb1 HSZ.out;clear hb1 HTH0 HSZ;have HL9:=hid (Qk (P:=prog) (T:=178) w1 w.heap.size [.int .i64 kd,.int .i64 k,.int .i64 ((j:Int)+(s.size:Int)),.bool true] HTH1.out (by kernel_rfl) underlying178 rfl)
  have HB9:=hid (Qb HB1.out w.heap.size (le_refl _) [.int .i64 kd,.int .i64 k,.int .i64 ((j:Int)+(s.size:Int)),.bool true] 0);obtain⟨⟨z0,hz0⟩,hf0⟩:=Q2 HTH1.out 0 (by decide)
  obtain⟨⟨z1,hz1⟩,hf1⟩:=Q2 HTH1.out 1 (by decide)
  obtain⟨⟨z2,hz2⟩,hf2⟩:=Q2 HTH1.out 2 (by decide)
  obtain⟨⟨z3,hz3⟩,hf3⟩:=Q2 HTH1.out 3 (by decide)
  go_wp2
  refine bodyPost_ret (Qg rfl _ rfl HL9.out) rfl ?_;rw[HE.out];exact⟨by simp[Q1t],HB9.out⟩
theorem QjB(S:Nat->Prop)(A:Option Addr)(n c:Nat)(l:List Int)(k:Nat)(w:World)(hr:Rd w S 1 A n c (rc l))(hk:k+2<=l.length)(hl9:l.length<=1000000000) :
  Calls prog 175 #[.slice A n c,.int .i64 k] w fun e w'=>e=.returned (Q1t (Q5t l k) k)/\Below w.heap.size w w':=by
 obtain rfl:=hr.rlen;have hle:=hr.le;have hmx:c<=9223372036854775807:=hr.max;have HR:=hid hr;clear hr;obtain⟨t,ht⟩:∃t,t=Q3K l (k+2):=⟨_,rfl⟩;have HT:=hid ht;have HTT:Hid (Q5t l k=(10,t.1,t.2)):=by rw[Hid,ht];rfl
 clear ht;go_enter func175,ntmps175
 go_wp2
 have HTH0:=hid (Q29 w #[.int .i64 0,.int .i64 0,.int .i64 0,.bool false] 178);have HB0:=hid (ba w (.cells #[.int .i64 0,.int .i64 0,.int .i64 0,.bool false] 178));have HSZ:Hid (w.heap.size<(w.alloc (.cells #[.int .i64 0,.int .i64 0,.int .i64 0,.bool false] 178)).heap.size):=by simp[Hid]
 generalize w.alloc (.cells #[.int .i64 0,.int .i64 0,.int .i64 0,.bool false] 178)=W0 at HTH0 HB0 HSZ;have HR0:=hid (HR.out.below HB0.out);have HTH0:Hid (W0.there w.heap.size 0 4):=HTH0.out;go_loopw [5] (fun i wr=>wr=W0/\∃j:Nat,k+2<=j/\j<=l.length/\i=.int .i64 j/\Hid (t=Q3K l j)) (fun i _=>l.length-(intOf i).toNat)
 case atStart=>exact⟨rfl,k+2,le_refl _,by omega,by go_num,HT.out⟩
 case round =>
  obtain⟨rfl,j,hj1,hj2,rfl,HJ⟩:=hrel;by_cases hlt:j<l.length
  ·have hji:(j:Int)<(l.length:Int):=by omega
   obtain⟨b,o,rfl,hc0⟩:=HR0.out.rune hlt;have H1:=hid (QdH l j hlt);have H2:=hid (Qd9 l j hlt);have H3:=hid (Qa1 l j hlt);generalize l[j]=r at hc0 H1 H2 H3;by_cases h62:r=62
   ·have HE:Hid (Q5t l k=(10,j+1,true)):=by rw[Hid,HTT.out,HJ.out.trans (H1.out h62)]
    subst h62;clear H1 H2 H3 HJ HTT;have HL9:=hid (Qk (P:=prog) (T:=178) wr w.heap.size [.int .i64 10,.int .i64 k,.int .i64 ((j:Int)+1),.bool true] HTH0.out (by kernel_rfl) underlying178 rfl)
    have HB9:=hid (Qb HB0.out w.heap.size (le_refl _) [.int .i64 10,.int .i64 k,.int .i64 ((j:Int)+1),.bool true] 0);obtain⟨⟨z0,hz0⟩,hf0⟩:=Q2 HTH0.out 0 (by decide)
    obtain⟨⟨z1,hz1⟩,hf1⟩:=Q2 HTH0.out 1 (by decide)
    obtain⟨⟨z2,hz2⟩,hf2⟩:=Q2 HTH0.out 2 (by decide)
    obtain⟨⟨z3,hz3⟩,hf3⟩:=Q2 HTH0.out 3 (by decide)
    go_wp2
    refine bodyPost_ret (Qg rfl _ rfl HL9.out) rfl ?_;rw[HE.out];exact⟨by simp[Q1t],HB9.out⟩
   ·have h62b:(r == 62)=false:=by simpa using h62
    by_cases h60:r=60
    ·have HE:Hid (Q5t l k=(10,j,false)):=by rw[Hid,HTT.out,HJ.out.trans (H2.out h60)]
     subst h60;clear H1 H2 H3 HJ HTT h62;have HL9:=hid (Qk (P:=prog) (T:=178) wr w.heap.size [.int .i64 10,.int .i64 k,.int .i64 (j),.bool false] HTH0.out (by kernel_rfl) underlying178 rfl)
     have HB9:=hid (Qb HB0.out w.heap.size (le_refl _) [.int .i64 10,.int .i64 k,.int .i64 (j),.bool false] 0);obtain⟨⟨z0,hz0⟩,hf0⟩:=Q2 HTH0.out 0 (by decide)
     obtain⟨⟨z1,hz1⟩,hf1⟩:=Q2 HTH0.out 1 (by decide)
     obtain⟨⟨z2,hz2⟩,hf2⟩:=Q2 HTH0.out 2 (by decide)
     obtain⟨⟨z3,hz3⟩,hf3⟩:=Q2 HTH0.out 3 (by decide)
     go_wp2
     refine bodyPost_ret (Qg rfl _ rfl HL9.out) rfl ?_;rw[HE.out];exact⟨by simp[Q1t],HB9.out⟩
    ·have h60b:(r == 60)=false:=by simpa using h60
     have HN:=hid (HJ.out.trans (H3.out h62 h60));clear H1 H2 H3 HJ h62 h60;go_wp2
     go_roundw
     case rel=>exact⟨trivial,j+1,by omega,by omega,by go_num,HN.out⟩
     case measure=>simp[intOf];omega
  ·have hji:¬(j:Int)<(l.length:Int):=by omega
   have HE:Hid (Q5t l k=(10,l.length,false)):=by rw[Hid,HTT.out,HJ.out.trans (Q8s l j hlt)]
   clear HJ HTT;have HL9:=hid (Qk (P:=prog) (T:=178) wr w.heap.size [.int .i64 10,.int .i64 k,.int .i64 (l.length),.bool false] HTH0.out (by kernel_rfl) underlying178 rfl)
   have HB9:=hid (Qb HB0.out w.heap.size (le_refl _) [.int .i64 10,.int .i64 k,.int .i64 (l.length),.bool false] 0);obtain⟨⟨z0,hz0⟩,hf0⟩:=Q2 HTH0.out 0 (by decide)
   obtain⟨⟨z1,hz1⟩,hf1⟩:=Q2 HTH0.out 1 (by decide)
   obtain⟨⟨z2,hz2⟩,hf2⟩:=Q2 HTH0.out 2 (by decide)
   obtain⟨⟨z3,hz3⟩,hf3⟩:=Q2 HTH0.out 3 (by decide)
   go_wp2
   refine bodyPost_ret (Qg rfl _ rfl HL9.out) rfl ?_;rw[HE.out];exact⟨by simp[Q1t],HB9.out⟩
theorem Qfc(S:Nat->Prop)(A:Option Addr)(n c:Nat)(l:List Int)(k:Nat)(w:World)(hr:Rd w S 1 A n c (rc l))(hk:k<l.length)(hl9:l.length<=1000000000) :
  Calls prog 176 #[.slice A n c,.int .i64 k] w fun e w'=>e=.returned (Q1t (Q2F l k) k)/\Below w.heap.size w w':=by
 obtain rfl:=hr.rlen;have hle:=hr.le;have hmx:c<=9223372036854775807:=hr.max;have HR:=hid hr
 have HAN:∀W,Below w.heap.size w W->Hid (Calls prog 216 #[.slice A l.length c,.int .i64 ((k:Int)+1),.bool true] W fun e w'=>e=.returned (.tuple #[.int .i64 (QD l true (k+1)).1,.bool (QD l true (k+1)).2])/\Below W.heap.size W w'):=fun W h=>by
  rw[show((k:Int)+1)=((k+1:Nat):Int) by omega]
  exact Qbx S A l.length c l (k+1) true W (HR.out.below h) (by omega) hl9
 obtain⟨ha1,ha2,ha3⟩:=Q3V l true l.length (k+1) (by omega) (by omega)
 have HT:Hid (Q2F l k=if(QD l true (k+1)).2=false then(8,(QD l true (k+1)).1,false)
  else if l[(QD l true (k+1)).1-1]?=some 47 then(9,(QD l true (k+1)).1+1,true)else(8,(QD l true (k+1)).1+1,true)):=rfl
 clear hr;generalize (QD l true (k+1)).1=j at HAN HT ha1 ha2 ha3;generalize (QD l true (k+1)).2=b at HAN HT ha3;go_enter func176,ntmps176
 go_wp2_with fail
 have HTH0:=hid (Q29 w #[.int .i64 0,.int .i64 0,.int .i64 0,.bool false] 178);have HB0:=hid (ba w (.cells #[.int .i64 0,.int .i64 0,.int .i64 0,.bool false] 178));have HSZ:Hid (w.heap.size<(w.alloc (.cells #[.int .i64 0,.int .i64 0,.int .i64 0,.bool false] 178)).heap.size):=by simp[Hid]
 generalize w.alloc (.cells #[.int .i64 0,.int .i64 0,.int .i64 0,.bool false] 178)=W0 at HTH0 HB0 HSZ;refine(HAN _ HB0.out).out.mono ?_;rintro e w1 ⟨rfl,hb1⟩;have HB1:=hid (HB0.out.trans (hb1.mono HB0.out.size));have HTH1:Hid (w1.there w.heap.size 0 4):=Qr HTH0.out hb1 HSZ.out;clear hb1 HTH0 HSZ HB0 HAN;cases b with
 |false =>
  have HE:Hid (Q2F l k=(8,j,false)):=HT.out;clear HT ha3;have HL9:=hid (Qk (P:=prog) (T:=178) w1 w.heap.size [.int .i64 8,.int .i64 k,.int .i64 (j),.bool false] HTH1.out (by kernel_rfl) underlying178 rfl)
  have HB9:=hid (Qb HB1.out w.heap.size (le_refl _) [.int .i64 8,.int .i64 k,.int .i64 (j),.bool false] 0);obtain⟨⟨z0,hz0⟩,hf0⟩:=Q2 HTH1.out 0 (by decide)
  obtain⟨⟨z1,hz1⟩,hf1⟩:=Q2 HTH1.out 1 (by decide)
  obtain⟨⟨z2,hz2⟩,hf2⟩:=Q2 HTH1.out 2 (by decide)
  obtain⟨⟨z3,hz3⟩,hf3⟩:=Q2 HTH1.out 3 (by decide)
  go_wp2
  refine bodyPost_ret (Qg rfl _ rfl HL9.out) rfl ?_;rw[HE.out];exact⟨by simp[Q1t],HB9.out⟩
 |true =>
  have ha3:=ha3 rfl;have hj1:j-1<l.length:=by omega
  have hj1i:(j:Int)-1<(l.length:Int):=by omega
  have hj0i:(0:Int)<=(j:Int)-1:=by omega
  obtain⟨b,o,rfl,hc0⟩:=(HR.out.below HB1.out).rune hj1
  have HT2:Hid (Q2F l k=if l[j-1]=47 then(9,j+1,true)else(8,j+1,true)):=by
   rw[Hid,HT.out,if_neg (by simp),List.getElem?_eq_getElem hj1]
   simp only[Option.some.injEq]
  generalize l[j-1]=r at hc0 HT2;clear HT;by_cases h47:r=47
  ·have HE:Hid (Q2F l k=(9,j+1,true)):=by rw[Hid,HT2.out,if_pos h47]
   subst h47;clear HT2;have HL9:=hid (Qk (P:=prog) (T:=178) w1 w.heap.size [.int .i64 9,.int .i64 k,.int .i64 ((j:Int)+1),.bool true] HTH1.out (by kernel_rfl) underlying178 rfl)
   have HB9:=hid (Qb HB1.out w.heap.size (le_refl _) [.int .i64 9,.int .i64 k,.int .i64 ((j:Int)+1),.bool true] 0);obtain⟨⟨z0,hz0⟩,hf0⟩:=Q2 HTH1.out 0 (by decide)
   obtain⟨⟨z1,hz1⟩,hf1⟩:=Q2 HTH1.out 1 (by decide)
   obtain⟨⟨z2,hz2⟩,hf2⟩:=Q2 HTH1.out 2 (by decide)
   obtain⟨⟨z3,hz3⟩,hf3⟩:=Q2 HTH1.out 3 (by decide)
   go_wp2
   refine bodyPost_ret (Qg rfl _ rfl HL9.out) rfl ?_;rw[HE.out];exact⟨by simp[Q1t],HB9.out⟩
  ·have HE:Hid (Q2F l k=(8,j+1,true)):=by rw[Hid,HT2.out,if_neg h47]
   have h47b:(r == 47)=false:=by simpa using h47
   clear HT2 h47;have HL9:=hid (Qk (P:=prog) (T:=178) w1 w.heap.size [.int .i64 8,.int .i64 k,.int .i64 ((j:Int)+1),.bool true] HTH1.out (by kernel_rfl) underlying178 rfl)
   have HB9:=hid (Qb HB1.out w.heap.size (le_refl _) [.int .i64 8,.int .i64 k,.int .i64 ((j:Int)+1),.bool true] 0);obtain⟨⟨z0,hz0⟩,hf0⟩:=Q2 HTH1.out 0 (by decide)
   obtain⟨⟨z1,hz1⟩,hf1⟩:=Q2 HTH1.out 1 (by decide)
   obtain⟨⟨z2,hz2⟩,hf2⟩:=Q2 HTH1.out 2 (by decide)
   obtain⟨⟨z3,hz3⟩,hf3⟩:=Q2 HTH1.out 3 (by decide)
   go_wp2
   refine bodyPost_ret (Qg rfl _ rfl HL9.out) rfl ?_;rw[HE.out];exact⟨by simp[Q1t],HB9.out⟩
theorem QjL(l:List Int)(k t:Nat)(bs:List UInt8)(j:Nat)(h:Q45 l k t bs=some j):k<=j/\j<t+1-bs.length:=by
 rw[Q45,List.find?_range'_eq_some]at h;have:=List.mem_range'_1.1 h.2.1
 omega
theorem Q3v(l:List Int)(kd k skip:Nat)(bs:List UInt8)(hk:k<l.length)(hb:0<bs.length):k<(Q1d l kd k skip bs).2.1/\(Q1d l kd k skip bs).2.1<=l.length:=by
 unfold Q1d;cases h:Q45 l (min (k+skip) l.length) l.length bs with
 |none=>simp only;omega
 |some j =>
  have:=QjL l _ _ bs j h
  simp only;omega
def Q3P(l:List Int)(k:Nat):Nat×Bool :=
 if Q7 l k [60,33,45,45]=true then((Q1d l 4 k 4 [45,45,62]).2.1,(Q1d l 4 k 4 [45,45,62]).2.2)
 else if Q7 l k [60,63]=true then((Q1d l 5 k 2 [63,62]).2.1,(Q1d l 5 k 2 [63,62]).2.2)
 else if l.getD k 0=60 then(min ((QD l false k).1+1) l.length,(QD l false k).2)
 else(k+1,true)
theorem Q5T(l:List Int)(k:Nat)(hk:k<l.length):k<(Q3P l k).1/\(Q3P l k).1<=l.length:=by
 unfold Q3P;split
 ·exact Q3v l 4 k 4 _ hk (by decide)
 ·split
  ·exact Q3v l 5 k 2 _ hk (by decide)
  ·split
   ·have:=Q3V l false l.length k (by omega) (by omega)
    simp only;omega
   ·simp only;omega
def Q4A(l:List Int)(k:Nat)(ok:Bool):Nat×Bool :=
 if h:k<l.length/\ok=true then(if l[k]'h.1=93 then(k+1,true)else Q4A l (Q3P l k).1 (Q3P l k).2)else(l.length,false)
termination_by l.length-k
decreasing_by
 have:=Q5T l k h.1;omega
theorem Qbn(l:List Int)(k:Nat)(h:k<l.length)(hq:l[k]=93):Q4A l k true=(k+1,true):=by rw[Q4A,dif_pos ⟨h,rfl⟩,if_pos hq]
theorem Q9a(l:List Int)(k:Nat)(h:k<l.length)(hq:l[k]≠93):Q4A l k true=Q4A l (Q3P l k).1 (Q3P l k).2:=by
 conv=>lhs;rw[Q4A]
 rw[dif_pos ⟨h,rfl⟩,if_neg hq]
theorem Q6x(l:List Int)(k:Nat)(ok:Bool)(h:¬(k<l.length/\ok=true)):Q4A l k ok=(l.length,false):=by rw[Q4A,dif_neg h]
theorem Qdu(l:List Int):∀(n k:Nat)(ok:Bool),l.length-k<=n->k<=l.length->(k<(Q4A l k ok).1\/(Q4A l k ok).1=l.length)/\(Q4A l k ok).1<=l.length:=by
 intro n;induction n with
 |zero =>
  intro k ok h hk;rw[Q6x l k ok (by omega)]
  simp
 |succ n ih =>
  intro k ok h hk;by_cases hlt:k<l.length/\ok=true
  ·obtain⟨hlt,rfl⟩:=hlt
   by_cases hq:l[k]=93
   ·rw[Qbn l k hlt hq];simp only;omega
   ·have:=Q5T l k hlt
    have:=ih (Q3P l k).1 (Q3P l k).2 (by omega) (by omega)
    rw[Q9a l k hlt hq];omega
  ·rw[Q6x l k ok hlt];simp
def Q79(l:List Int)(k:Nat):Nat×Bool:=Q4A l (k+1) true
theorem Qci(S:Nat->Prop)(A:Option Addr)(n c:Nat)(l:List Int)(k:Nat)(w:World)(hr:Rd w S 1 A n c (rc l))(hk:k<l.length)(hl9:l.length<=1000000000) :
  Calls prog 253 #[.slice A n c,.int .i64 k] w fun e w'=>e=.returned (.tuple #[.int .i64 (Q3P l k).1,.bool (Q3P l k).2])/\Below w.heap.size w w':=by
 obtain rfl:=hr.rlen;have hle:=hr.le;have hmx:c<=9223372036854775807:=hr.max;have HR:=hid hr
 have HS1:∀W,Below w.heap.size w W->Hid (Calls prog 11 #[.slice A l.length c,.int .i64 k,.string ⟨#[60,33,45,45]⟩] W fun e w'=>e=.returned (.bool (Q7 l k [60,33,45,45]))/\Below W.heap.size W w') :=
  fun W h=>Q1s S A l.length c l k ⟨#[60,33,45,45]⟩ W (HR.out.below h) (by omega) hl9 (by decide)
 have HS2:∀W,Below w.heap.size w W->Hid (Calls prog 11 #[.slice A l.length c,.int .i64 k,.string ⟨#[60,63]⟩] W fun e w'=>e=.returned (.bool (Q7 l k [60,63]))/\Below W.heap.size W w') :=
  fun W h=>Q1s S A l.length c l k ⟨#[60,63]⟩ W (HR.out.below h) (by omega) hl9 (by decide)
 have HU1:∀W,Below w.heap.size w W->Hid (Calls prog 173 #[.slice A l.length c,.int .i64 4,.int .i64 k,.int .i64 4,.string ⟨#[45,45,62]⟩] W fun e w'=>e=.returned (Q1t (Q1d l 4 k 4 [45,45,62]) k)/\Below W.heap.size W w') :=
  fun W h=>Q5O S A l.length c l 4 k 4 ⟨#[45,45,62]⟩ W (HR.out.below h) (by omega) (by decide) hl9 (by decide)
 have HU2:∀W,Below w.heap.size w W->Hid (Calls prog 173 #[.slice A l.length c,.int .i64 5,.int .i64 k,.int .i64 2,.string ⟨#[63,62]⟩] W fun e w'=>e=.returned (Q1t (Q1d l 5 k 2 [63,62]) k)/\Below W.heap.size W w') :=
  fun W h=>Q5O S A l.length c l 5 k 2 ⟨#[63,62]⟩ W (HR.out.below h) (by omega) (by decide) hl9 (by decide)
 have HAN:=fun W (h:Below w.heap.size w W)=>hid (Qbx S A l.length c l k false W (HR.out.below h) (by omega) hl9)
 obtain⟨ha1,ha2,_⟩:=Q3V l false l.length k (by omega) (by omega)
 have HT:Hid (Q3P l k=if Q7 l k [60,33,45,45]=true then((Q1d l 4 k 4 [45,45,62]).2.1,(Q1d l 4 k 4 [45,45,62]).2.2)
  else if Q7 l k [60,63]=true then((Q1d l 5 k 2 [63,62]).2.1,(Q1d l 5 k 2 [63,62]).2.2)
  else if l[k]=60 then(min ((QD l false k).1+1) l.length,(QD l false k).2)else(k+1,true)):=by rw[Hid,Q3P,Q7H hk]
 have HCK:=fun W (h:Below w.heap.size w W)=>hid ((HR.out.below h).rune hk)
 clear hr;have hki:(k:Int)<(l.length:Int):=by omega
 generalize Q3P l k=t at HT ⊢;generalize Q7 l k [60,33,45,45]=s1 at HS1 HT;generalize Q7 l k [60,63]=s2 at HS2 HT;generalize Q1d l 4 k 4 [45,45,62]=u1 at HU1 HT;generalize Q1d l 5 k 2 [63,62]=u2 at HU2 HT;generalize (QD l false k).1=aj at HAN HT ha1 ha2;generalize (QD l false k).2=ab at HAN HT;generalize l[k]=r at HCK HT;obtain⟨k1,t1,w1b⟩:=u1;obtain⟨k2,t2,w2b⟩:=u2;have HU1:∀W,Below w.heap.size w W->Hid (Calls prog 173 #[.slice A l.length c,.int .i64 4,.int .i64 k,.int .i64 4,.string ⟨#[45,45,62]⟩] W fun e w'=>e=.returned (.agg #[.int .i64 k1,.int .i64 k,.int .i64 t1,.bool w1b])/\Below W.heap.size W w'):=HU1
 have HU2:∀W,Below w.heap.size w W->Hid (Calls prog 173 #[.slice A l.length c,.int .i64 5,.int .i64 k,.int .i64 2,.string ⟨#[63,62]⟩] W fun e w'=>e=.returned (.agg #[.int .i64 k2,.int .i64 k,.int .i64 t2,.bool w2b])/\Below W.heap.size W w'):=HU2
 have hm:∀ts t W,(Builtin.min_ ts t #[.int .i64 ((aj:Int)+1),.int .i64 (l.length:Int)]).run prog W=.ok (.int .i64 (min (aj+1) l.length:Nat)) W:=fun ts t W=>by
  rw[run_min_int2];congr 2
  split<;>omega
 go_enter func253,ntmps253
 go_wp2_with fail
 refine(HS1 _ (Below.refl _ _)).out.mono ?_;rintro e v1 ⟨rfl,hb1⟩;have HB1:=hid hb1;clear hb1 HS1;cases s1 with
 |true =>
  have HE:Hid (t=(t1,w1b)):=HT.out;clear HT;go_wp2_with fail
  refine(HU1 _ HB1.out).out.mono ?_;rintro e v2 ⟨rfl,hb2⟩;have HB2:=hid (bt HB1.out hb2);clear hb2;go_wp2
  go_quiet (fail)
  go_wp2
  go_ret2
  rw[HE.out];exact⟨rfl,QV (bt HB2.out (ba _ _)) _⟩
 |false =>
  go_wp2_with fail
  refine(HS2 _ HB1.out).out.mono ?_;rintro e v2 ⟨rfl,hb2⟩;have HB2:=hid (bt HB1.out hb2);clear hb2;cases s2 with
  |true =>
   have HE:Hid (t=(t2,w2b)):=HT.out;clear HT;go_wp2_with fail
   refine(HU2 _ HB2.out).out.mono ?_;rintro e v3 ⟨rfl,hb3⟩;have HB3:=hid (bt HB2.out hb3);clear hb3;go_wp2
   go_quiet (fail)
   go_wp2
   go_ret2
   rw[HE.out];exact⟨rfl,QV (bt HB3.out (ba _ _)) _⟩
  |false =>
   obtain⟨b,o,rfl,hc0⟩:=(HCK _ HB2.out).out;by_cases h60:r=60
   ·have HE:Hid (t=(min (aj+1) l.length,ab)):=by rw[Hid,HT.out];simp[h60]
    subst h60;clear HT HCK;generalize min (aj+1) l.length=m2 at hm HE;go_wp2_with fail
    refine(HAN _ HB2.out).out.mono ?_;rintro e v3 ⟨rfl,hb3⟩;have HB3:=hid (bt HB2.out hb3);clear hb3;go_wp2
    go_ret2
    rw[HE.out];exact⟨rfl,HB3.out⟩
   ·have HE:Hid (t=(k+1,true)):=by rw[Hid,HT.out];simp[h60]
    have h60b:(r == 60)=false:=by simpa using h60
    clear HT HCK h60;go_wp2
    go_ret2
    rw[HE.out];exact⟨by simp,HB2.out⟩
theorem Qek(S:Nat->Prop)(A:Option Addr)(n c:Nat)(l:List Int)(k:Nat)(w:World)(hr:Rd w S 1 A n c (rc l))(hk:k<l.length)(hl9:l.length<=1000000000) :
  Calls prog 215 #[.slice A n c,.int .i64 k] w fun e w'=>e=.returned (.tuple #[.int .i64 (Q79 l k).1,.bool (Q79 l k).2])/\Below w.heap.size w w':=by
 obtain rfl:=hr.rlen;have hle:=hr.le;have hmx:c<=9223372036854775807:=hr.max;have HR:=hid hr;clear hr;have HT:Hid (Q79 l k=Q4A l (k+1) true):=rfl;generalize Q79 l k=t at HT ⊢;go_enter func215,ntmps215
 go_wp2
 go_loopw [1,6] (fun i o wr=>∃(j:Nat) (ok:Bool),j<=l.length/\i=.int .i64 j/\o=.bool ok/\Hid (t=Q4A l j ok)/\Hid (Below w.heap.size w wr)) (fun i _ _=>l.length-(intOf i).toNat)
 case atStart=>exact⟨k+1,true,by omega,by go_num,rfl,HT.out,Below.refl _ _⟩
 case round =>
  obtain⟨j,ok,hj,rfl,rfl,HJ,HB⟩:=hrel;by_cases hlt:j<l.length
  ·have hji:(j:Int)<(l.length:Int):=by omega
   cases ok with
   |true =>
    obtain⟨b,o,rfl,hc0⟩:=(HR.out.below HB.out).rune hlt;have H1:=hid (Qbn l j hlt);have H2:=hid (Q9a l j hlt);have HDC:=hid (Qci S _ l.length c l j _ (HR.out.below HB.out) hlt hl9);obtain⟨hd1,hd2⟩:=Q5T l j hlt;generalize l[j]=r at hc0 H1 H2;generalize (Q3P l j).1=dj at H2 HDC hd1 hd2;generalize (Q3P l j).2=db at H2 HDC;by_cases h93:r=93
    ·have HE:=hid (HJ.out.trans (H1.out h93))
     subst h93;clear H1 H2 HJ HDC;go_wp2
     go_ret2
     rw[HE.out];exact⟨by simp,HB.out⟩
    ·have HE:=hid (HJ.out.trans (H2.out h93))
     have h93b:(r == 93)=false:=by simpa using h93
     clear H1 H2 HJ h93;go_wp2_with fail
     refine HDC.out.mono ?_;rintro e v2 ⟨rfl,hb2⟩;have HB2:=hid (HB.out.trans (hb2.mono HB.out.size));clear hb2;go_wp2
     go_roundw
     case rel=>exact⟨dj,db,by omega,rfl,rfl,HE.out,HB2.out⟩
     case measure=>simp[intOf];omega
   |false =>
    have HE:=hid (HJ.out.trans (Q6x l j false (by simp)))
    clear HJ;go_wp2
    go_ret2
    rw[HE.out];exact⟨rfl,HB.out⟩
  ·have hji:¬(j:Int)<(l.length:Int):=by omega
   have HE:=hid (HJ.out.trans (Q6x l j ok (fun h=>hlt h.1)))
   clear HJ;go_wp2
   go_ret2
   rw[HE.out];exact⟨rfl,HB.out⟩
theorem Q6W(l:List Int)(k:Nat)(hk:k<l.length):k<(Q79 l k).1/\(Q79 l k).1<=l.length:=by
 have:=Qdu l l.length (k+1) true (by omega) (by omega)
 unfold Q79;omega
def Q2G(l:List Int)(k:Nat)(ok:Bool):Nat×Bool :=
 if h:k<l.length/\ok=true then
  (if l[k]'h.1=62 then(k+1,true)else if Q4V (l[k]'h.1)then Q2G l (QS l k).1 (QS l k).2 else if l[k]'h.1=91 then Q2G l (Q79 l k).1 (Q79 l k).2 else Q2G l (k+1) true)
 else(l.length,false)
termination_by l.length-k
decreasing_by
 ·have:=Q3p l k h.1;omega
 ·have:=Q6W l k h.1;omega
 ·omega
theorem Q6f(l:List Int)(k:Nat)(ok:Bool)(h:¬(k<l.length/\ok=true)):Q2G l k ok=(l.length,false):=by rw[Q2G,dif_neg h]
theorem Qbh(l:List Int)(k:Nat)(h:k<l.length)(hq:l[k]=62):Q2G l k true=(k+1,true):=by rw[Q2G,dif_pos ⟨h,rfl⟩,if_pos hq]
theorem QaN(l:List Int)(k:Nat)(h:k<l.length)(h1:l[k]≠62)(hq:Q4V l[k]=true):Q2G l k true=Q2G l (QS l k).1 (QS l k).2:=by
 conv=>lhs;rw[Q2G]
 rw[dif_pos ⟨h,rfl⟩,if_neg h1,if_pos hq]
theorem Qb3(l:List Int)(k:Nat)(h:k<l.length)(hq:l[k]=91):Q2G l k true=Q2G l (Q79 l k).1 (Q79 l k).2:=by
 conv=>lhs;rw[Q2G]
 rw[dif_pos ⟨h,rfl⟩,if_neg (by rw[hq];decide),if_neg (by rw[hq];decide),if_pos hq]
theorem Qa8(l:List Int)(k:Nat)(h:k<l.length)(h1:l[k]≠62)(h2:Q4V l[k]=false)(h3:l[k]≠91):Q2G l k true=Q2G l (k+1) true:=by
 conv=>lhs;rw[Q2G]
 rw[dif_pos ⟨h,rfl⟩,if_neg h1,if_neg (by simp[h2]),if_neg h3]
def Q5u(l:List Int)(k:Nat):Nat×Nat×Bool:=(7,(Q2G l (k+9) true).1,(Q2G l (k+9) true).2)
def Q2P(l:List Int)(k:Nat):Nat×Nat×Bool :=
 if Q7 l k [60,33,45,45]=true then Q1d l 4 k 4 [45,45,62]
 else if Q7 l k [60,33,91,67,68,65,84,65,91]=true then Q1d l 6 k 9 [93,93,62]
 else if Q7 l k [60,63]=true then Q1d l 5 k 2 [63,62]
 else if Q7 l k [60,33,68,79,67,84,89,80,69]=true then Q5u l k
 else if Q7 l k [60,47]=true then Q5t l k
 else if 0<Ql l (k+1)then Q2F l k
 else(11,k+1,false)
def Q20(r:Int):Bool:=r != 60&&(r != 38&&r != -1)
def QZ(l:List Int)(k:Nat):Nat×Nat×Bool :=
 if l.getD k 0=60 then Q2P l k else if l.getD k 0=38 then Q4q l k else if l.getD k 0=-1 then(11,k+1,false)
 else(1,k+((l.drop k).takeWhile Q20).length,true)
theorem Qc8(S:Nat->Prop)(A:Option Addr)(n c:Nat)(l:List Int)(k:Nat)(w:World)(hr:Rd w S 1 A n c (rc l))(hk:k+9<=l.length)(hl9:l.length<=1000000000) :
  Calls prog 174 #[.slice A n c,.int .i64 k] w fun e w'=>e=.returned (Q1t (Q5u l k) k)/\Below w.heap.size w w':=by
 obtain rfl:=hr.rlen;have hle:=hr.le;have hmx:c<=9223372036854775807:=hr.max;have HR:=hid hr;clear hr;obtain⟨t,ht⟩:∃t,t=Q2G l (k+9) true:=⟨_,rfl⟩;have HT:=hid ht;have HTT:Hid (Q5u l k=(7,t.1,t.2)):=by rw[Hid,ht];rfl
 clear ht;go_enter func174,ntmps174
 go_wp2
 have HTH0:=hid (Q29 w #[.int .i64 0,.int .i64 0,.int .i64 0,.bool false] 178);have HB0:=hid (ba w (.cells #[.int .i64 0,.int .i64 0,.int .i64 0,.bool false] 178));have HSZ:Hid (w.heap.size<(w.alloc (.cells #[.int .i64 0,.int .i64 0,.int .i64 0,.bool false] 178)).heap.size):=by simp[Hid]
 generalize w.alloc (.cells #[.int .i64 0,.int .i64 0,.int .i64 0,.bool false] 178)=W0 at HTH0 HB0 HSZ;have HTH0:Hid (W0.there w.heap.size 0 4):=HTH0.out;go_loopw [5,6] (fun o i wr=>∃(j:Nat) (ok:Bool),j<=l.length/\i=.int .i64 j/\o=.bool ok/\Hid (t=Q2G l j ok)/\Hid (Below w.heap.size w wr)/\Hid (wr.there w.heap.size 0 4)/\Hid (w.heap.size<wr.heap.size)) (fun _ i _=>l.length-(intOf i).toNat)
 case atStart=>exact⟨k+9,true,by omega,by go_num,rfl,HT.out,HB0.out,HTH0.out,HSZ.out⟩
 case round =>
  obtain⟨j,ok,hj,rfl,rfl,HJ,HB,HTH,HLT⟩:=hrel;by_cases hlt:j<l.length
  ·have hji:(j:Int)<(l.length:Int):=by omega
   cases ok with
   |true =>
    obtain⟨b,o,rfl,hc0⟩:=(HR.out.below HB.out).rune hlt;have H1:=hid (Qbh l j hlt);have H2:=hid (QaN l j hlt);have H3:=hid (Qb3 l j hlt);have H4:=hid (Qa8 l j hlt);have HQT:=hid (Q9D l[j]);have HQD:=hid (Qa2 S _ l.length c l j _ (HR.out.below HB.out) hlt hl9);have HSB:=hid (Qek S _ l.length c l j _ (HR.out.below HB.out) hlt hl9);obtain⟨hg1,hg2⟩:=Q3p l j hlt;obtain⟨hs1,hs2⟩:=Q6W l j hlt;generalize (QS l j).1=qj at HQD H2 hg1 hg2;generalize (QS l j).2=qb at HQD H2;generalize (Q79 l j).1=sj at HSB H3 hs1 hs2;generalize (Q79 l j).2=sb at HSB H3;generalize l[j]=r at hc0 HQT H1 H2 H3 H4;by_cases h62:r=62
    ·have HE:Hid (Q5u l k=(7,j+1,true)):=by rw[Hid,HTT.out,HJ.out.trans (H1.out h62)]
     subst h62;clear H1 H2 H3 H4 HJ HTT HQD HSB HQT;have HL9:=hid (Qk (P:=prog) (T:=178) wr w.heap.size [.int .i64 7,.int .i64 k,.int .i64 ((j:Int)+1),.bool true] HTH.out (by kernel_rfl) underlying178 rfl)
     have HB9:=hid (Qb HB.out w.heap.size (le_refl _) [.int .i64 7,.int .i64 k,.int .i64 ((j:Int)+1),.bool true] 0);obtain⟨⟨z0,hz0⟩,hf0⟩:=Q2 HTH.out 0 (by decide)
     obtain⟨⟨z1,hz1⟩,hf1⟩:=Q2 HTH.out 1 (by decide)
     obtain⟨⟨z2,hz2⟩,hf2⟩:=Q2 HTH.out 2 (by decide)
     obtain⟨⟨z3,hz3⟩,hf3⟩:=Q2 HTH.out 3 (by decide)
     go_wp2
     refine bodyPost_ret (Qg rfl _ rfl HL9.out) rfl ?_;rw[HE.out];exact⟨by simp[Q1t],HB9.out⟩
    ·have h62b:(r == 62)=false:=by simpa using h62
     have HQT2:=fun W=>hid (HQT.out W)
     cases hq:Q4V r with
     |true =>
      have HN:=hid (HJ.out.trans (H2.out h62 hq));rw[hq]at HQT2;clear H1 H2 H3 H4 HJ HSB HQT h62 hq;go_wp2_with fail
      refine(HQT2 _).out.mono ?_;rintro e wx ⟨rfl,rfl⟩;go_wp2_with fail
      refine HQD.out.mono ?_;rintro e v2 ⟨rfl,hb2⟩;have HB2:=hid (HB.out.trans (hb2.mono HB.out.size));have HTH2:=hid (Qr HTH.out hb2 HLT.out);have HLT2:=hid (lt_of_lt_of_le HLT.out hb2.size);clear hb2;go_wp2
      go_roundw
      case rel=>exact⟨qj,qb,by omega,rfl,rfl,HN.out,HB2.out,HTH2.out,HLT2.out⟩
      case measure=>simp[intOf];omega
     |false =>
      rw[hq]at HQT2;by_cases h91:r=91
      ·have HN:=hid (HJ.out.trans (H3.out h91))
       subst h91;clear H1 H2 H3 H4 HJ HQD HQT h62 hq;go_wp2_with fail
       refine(HQT2 _).out.mono ?_;rintro e wx ⟨rfl,rfl⟩;go_wp2_with fail
       refine HSB.out.mono ?_;rintro e v2 ⟨rfl,hb2⟩;have HB2:=hid (HB.out.trans (hb2.mono HB.out.size));have HTH2:=hid (Qr HTH.out hb2 HLT.out);have HLT2:=hid (lt_of_lt_of_le HLT.out hb2.size);clear hb2;go_wp2
       go_roundw
       case rel=>exact⟨sj,sb,by omega,rfl,rfl,HN.out,HB2.out,HTH2.out,HLT2.out⟩
       case measure=>simp[intOf];omega
      ·have HN:=hid (HJ.out.trans (H4.out h62 hq h91))
       have h91b:(r == 91)=false:=by simpa using h91
       clear H1 H2 H3 H4 HJ HQD HSB HQT h62 hq h91;go_wp2_with fail
       refine(HQT2 _).out.mono ?_;rintro e wx ⟨rfl,rfl⟩;go_wp2
       go_roundw
       case rel=>exact⟨j+1,true,by omega,by go_num,rfl,HN.out,HB.out,HTH.out,HLT.out⟩
       case measure=>simp[intOf];omega
   |false =>
    have HE:Hid (Q5u l k=(7,l.length,false)):=by rw[Hid,HTT.out,HJ.out.trans (Q6f l j false (by simp))]
    clear HJ HTT;have HL9:=hid (Qk (P:=prog) (T:=178) wr w.heap.size [.int .i64 7,.int .i64 k,.int .i64 (l.length),.bool false] HTH.out (by kernel_rfl) underlying178 rfl)
    have HB9:=hid (Qb HB.out w.heap.size (le_refl _) [.int .i64 7,.int .i64 k,.int .i64 (l.length),.bool false] 0);obtain⟨⟨z0,hz0⟩,hf0⟩:=Q2 HTH.out 0 (by decide)
    obtain⟨⟨z1,hz1⟩,hf1⟩:=Q2 HTH.out 1 (by decide)
    obtain⟨⟨z2,hz2⟩,hf2⟩:=Q2 HTH.out 2 (by decide)
    obtain⟨⟨z3,hz3⟩,hf3⟩:=Q2 HTH.out 3 (by decide)
    go_wp2
    refine bodyPost_ret (Qg rfl _ rfl HL9.out) rfl ?_;rw[HE.out];exact⟨by simp[Q1t],HB9.out⟩
  ·have hji:¬(j:Int)<(l.length:Int):=by omega
   have HE:Hid (Q5u l k=(7,l.length,false)):=by rw[Hid,HTT.out,HJ.out.trans (Q6f l j ok (fun h=>hlt h.1))]
   clear HJ HTT;have HL9:=hid (Qk (P:=prog) (T:=178) wr w.heap.size [.int .i64 7,.int .i64 k,.int .i64 (l.length),.bool false] HTH.out (by kernel_rfl) underlying178 rfl)
   have HB9:=hid (Qb HB.out w.heap.size (le_refl _) [.int .i64 7,.int .i64 k,.int .i64 (l.length),.bool false] 0);obtain⟨⟨z0,hz0⟩,hf0⟩:=Q2 HTH.out 0 (by decide)
   obtain⟨⟨z1,hz1⟩,hf1⟩:=Q2 HTH.out 1 (by decide)
   obtain⟨⟨z2,hz2⟩,hf2⟩:=Q2 HTH.out 2 (by decide)
   obtain⟨⟨z3,hz3⟩,hf3⟩:=Q2 HTH.out 3 (by decide)
   go_wp2
   refine bodyPost_ret (Qg rfl _ rfl HL9.out) rfl ?_;rw[HE.out];exact⟨by simp[Q1t],HB9.out⟩
end
section
open Go.RowKit Go.Lib
end
section
open Go.RowKit Go.Lib Tryz
theorem Qdy(S:Nat->Prop)(A:Option Addr)(n c:Nat)(l:List Int)(k:Nat)(w:World)(hr:Rd w S 1 A n c (rc l))(h38:l[k]?=some 38)(hl9:l.length<=1000000000) :
  Calls prog 92 #[.slice A n c,.int .i64 k] w fun e w'=>e=.returned (.tuple #[Q1t (Q4q l k) k,.bool true])/\Below w.heap.size w w':=by
 obtain rfl:=hr.rlen;have hle:=hr.le;have hmx:c<=9223372036854775807:=hr.max;obtain⟨hk,h38⟩:=List.getElem?_eq_some_iff.1 h38;obtain⟨b,o,rfl,hc0⟩:=hr.rune hk;rw[h38]at hc0;have hca:=fun ob=>Q6s (ba w ob) hc0
 have hki:¬(k:Int) ≥ (l.length:Int):=by omega
 have HRF:=fun W (h:Below w.heap.size w W)=>hid (Qm2 S _ _ c l k W (hr.below h) hk hl9)
 clear hr h38;generalize Q4q l k=t at HRF ⊢;obtain⟨kd,to,wh⟩:=t;have HRF:∀W,Below w.heap.size w W->Hid (Calls prog 133 #[.slice (some ⟨b,o,none⟩) l.length c,.int .i64 k] W fun e w'=>e=.returned (.agg #[.int .i64 kd,.int .i64 k,.int .i64 to,.bool wh])/\Below W.heap.size W w'):=HRF
 go_enter func92,ntmps92
 go_wp2_with fail
 have HTH0:=hid (Q29 w #[.int .i64 0,.int .i64 0,.int .i64 0,.bool false] 178);have HB0:=hid (ba w (.cells #[.int .i64 0,.int .i64 0,.int .i64 0,.bool false] 178));have HSZ:Hid (w.heap.size<(w.alloc (.cells #[.int .i64 0,.int .i64 0,.int .i64 0,.bool false] 178)).heap.size):=by simp[Hid]
 generalize w.alloc (.cells #[.int .i64 0,.int .i64 0,.int .i64 0,.bool false] 178)=W0 at HTH0 HB0 HSZ;refine(HRF _ HB0.out).out.mono ?_;rintro e w1 ⟨rfl,hb1⟩;have HB1:=hid (HB0.out.trans (hb1.mono HB0.out.size));have hth:=Qr HTH0.out hb1 HSZ.out;have HL9:=hid (Qk (P:=prog) (T:=178) w1 w.heap.size [.int .i64 kd,.int .i64 k,.int .i64 to,.bool wh] hth (by kernel_rfl) underlying178 rfl)
 have HB9:=hid (Qb HB1.out w.heap.size (le_refl _) [.int .i64 kd,.int .i64 k,.int .i64 to,.bool wh] 0);obtain⟨⟨z0,hz0⟩,hf0⟩:=Q2 hth 0 (by decide)
 obtain⟨⟨z1,hz1⟩,hf1⟩:=Q2 hth 1 (by decide)
 obtain⟨⟨z2,hz2⟩,hf2⟩:=Q2 hth 2 (by decide)
 obtain⟨⟨z3,hz3⟩,hf3⟩:=Q2 hth 3 (by decide)
 clear hth hb1 HTH0 HRF;go_wp2
 refine bodyPost_ret (Q3r rfl _ rfl HL9.out) rfl ?_;exact⟨rfl,HB9.out⟩
theorem QiC{P:Program}{T:TypeId}{d:TypeDesc}(w:World)(vs:List Value)(hi:(P.info? T).map (·.size)=some vs.length)(hu:P.underlying T=some d)(hd:d.isRow=true) :
  (loadVar T ⟨w.heap.size,0,none⟩).run P (w.alloc (.cells vs.toArray T))=.ok (.agg vs.toArray) (w.alloc (.cells vs.toArray T)) :=
 run_loadVar_mid (P:=P) _ w.heap.size 0 T vs d (fun j v hv=>by
  rw[World.cell?_alloc_at _ _ _ _ rfl,Nat.zero_add];simpa using hv) hu hd hi
theorem Q38(l:List Int)(k:Nat)(bs:List UInt8)(hk:k<=l.length)(h:Q7 l k bs=true):k+bs.length<=l.length:=by
 by_cases hn:l.length<k+bs.length
 ·rw[Q54 l k bs hn hk]at h;cases h
 ·omega
theorem Qeh(S:Nat->Prop)(A:Option Addr)(n c:Nat)(l:List Int)(k:Nat)(w:World)(hr:Rd w S 1 A n c (rc l))(hk:k<l.length)(hl9:l.length<=1000000000) :
  Calls prog 132 #[.slice A n c,.int .i64 k] w fun e w'=>e=.returned (Q1t (Q2P l k) k)/\Below w.heap.size w w':=by
 obtain rfl:=hr.rlen;have hle:=hr.le;have hmx:c<=9223372036854775807:=hr.max;have HR:=hid hr
 have HSa:∀W,Below w.heap.size w W->Hid (Calls prog 11 #[.slice A l.length c,.int .i64 k,.string ⟨#[60,33,45,45]⟩] W fun e w'=>e=.returned (.bool (Q7 l k [60,33,45,45]))/\Below W.heap.size W w') :=
  fun W h=>Q1s S A l.length c l k ⟨#[60,33,45,45]⟩ W (HR.out.below h) (by omega) hl9 (by decide)
 have HSb:∀W,Below w.heap.size w W->Hid (Calls prog 11 #[.slice A l.length c,.int .i64 k,.string ⟨#[60,33,91,67,68,65,84,65,91]⟩] W fun e w'=>e=.returned (.bool (Q7 l k [60,33,91,67,68,65,84,65,91]))/\Below W.heap.size W w') :=
  fun W h=>Q1s S A l.length c l k ⟨#[60,33,91,67,68,65,84,65,91]⟩ W (HR.out.below h) (by omega) hl9 (by decide)
 have HSc:∀W,Below w.heap.size w W->Hid (Calls prog 11 #[.slice A l.length c,.int .i64 k,.string ⟨#[60,63]⟩] W fun e w'=>e=.returned (.bool (Q7 l k [60,63]))/\Below W.heap.size W w') :=
  fun W h=>Q1s S A l.length c l k ⟨#[60,63]⟩ W (HR.out.below h) (by omega) hl9 (by decide)
 have HSd:∀W,Below w.heap.size w W->Hid (Calls prog 11 #[.slice A l.length c,.int .i64 k,.string ⟨#[60,33,68,79,67,84,89,80,69]⟩] W fun e w'=>e=.returned (.bool (Q7 l k [60,33,68,79,67,84,89,80,69]))/\Below W.heap.size W w') :=
  fun W h=>Q1s S A l.length c l k ⟨#[60,33,68,79,67,84,89,80,69]⟩ W (HR.out.below h) (by omega) hl9 (by decide)
 have HSe:∀W,Below w.heap.size w W->Hid (Calls prog 11 #[.slice A l.length c,.int .i64 k,.string ⟨#[60,47]⟩] W fun e w'=>e=.returned (.bool (Q7 l k [60,47]))/\Below W.heap.size W w') :=
  fun W h=>Q1s S A l.length c l k ⟨#[60,47]⟩ W (HR.out.below h) (by omega) hl9 (by decide)
 have HUa:∀W,Below w.heap.size w W->Hid (Calls prog 173 #[.slice A l.length c,.int .i64 4,.int .i64 k,.int .i64 4,.string ⟨#[45,45,62]⟩] W fun e w'=>e=.returned (.agg #[.int .i64 (Q1d l 4 k 4 [45,45,62]).1,.int .i64 k,.int .i64 (Q1d l 4 k 4 [45,45,62]).2.1,.bool (Q1d l 4 k 4 [45,45,62]).2.2])/\Below W.heap.size W w') :=
  fun W h=>Q5O S A l.length c l 4 k 4 ⟨#[45,45,62]⟩ W (HR.out.below h) (by omega) (by decide) hl9 (by decide)
 have HUb:∀W,Below w.heap.size w W->Hid (Calls prog 173 #[.slice A l.length c,.int .i64 6,.int .i64 k,.int .i64 9,.string ⟨#[93,93,62]⟩] W fun e w'=>e=.returned (.agg #[.int .i64 (Q1d l 6 k 9 [93,93,62]).1,.int .i64 k,.int .i64 (Q1d l 6 k 9 [93,93,62]).2.1,.bool (Q1d l 6 k 9 [93,93,62]).2.2])/\Below W.heap.size W w') :=
  fun W h=>Q5O S A l.length c l 6 k 9 ⟨#[93,93,62]⟩ W (HR.out.below h) (by omega) (by decide) hl9 (by decide)
 have HUc:∀W,Below w.heap.size w W->Hid (Calls prog 173 #[.slice A l.length c,.int .i64 5,.int .i64 k,.int .i64 2,.string ⟨#[63,62]⟩] W fun e w'=>e=.returned (.agg #[.int .i64 (Q1d l 5 k 2 [63,62]).1,.int .i64 k,.int .i64 (Q1d l 5 k 2 [63,62]).2.1,.bool (Q1d l 5 k 2 [63,62]).2.2])/\Below W.heap.size W w') :=
  fun W h=>Q5O S A l.length c l 5 k 2 ⟨#[63,62]⟩ W (HR.out.below h) (by omega) (by decide) hl9 (by decide)
 have HUd:Q7 l k [60,33,68,79,67,84,89,80,69]=true->∀W,Below w.heap.size w W->Hid (Calls prog 174 #[.slice A l.length c,.int .i64 k] W fun e w'=>e=.returned (.agg #[.int .i64 (Q5u l k).1,.int .i64 k,.int .i64 (Q5u l k).2.1,.bool (Q5u l k).2.2])/\Below W.heap.size W w') :=
  fun hs W h=>Qc8 S A l.length c l k W (HR.out.below h) (by have:=Q38 l k _ (by omega) hs;simpa using this) hl9
 have HUe:Q7 l k [60,47]=true->∀W,Below w.heap.size w W->Hid (Calls prog 175 #[.slice A l.length c,.int .i64 k] W fun e w'=>e=.returned (.agg #[.int .i64 (Q5t l k).1,.int .i64 k,.int .i64 (Q5t l k).2.1,.bool (Q5t l k).2.2])/\Below W.heap.size W w') :=
  fun hs W h=>QjB S A l.length c l k W (HR.out.below h) (by have:=Q38 l k _ (by omega) hs;simpa using this) hl9
 have HUf:∀W,Below w.heap.size w W->Hid (Calls prog 176 #[.slice A l.length c,.int .i64 k] W fun e w'=>e=.returned (.agg #[.int .i64 (Q2F l k).1,.int .i64 k,.int .i64 (Q2F l k).2.1,.bool (Q2F l k).2.2])/\Below W.heap.size W w') :=
  fun W h=>Qfc S A l.length c l k W (HR.out.below h) hk hl9
 have HLD:∀W,Below w.heap.size w W->Hid (Calls prog 82 #[.slice A l.length c,.int .i64 ((k:Int)+1)] W fun e w'=>e=.returned (.int .i64 (Ql l (k+1)))/\Below W.heap.size W w'):=fun W h=>by
  rw[show((k:Int)+1)=((k+1:Nat):Int) by omega]
  exact Q6l S A l.length c l (k+1) W (HR.out.below h) (by omega)
 have HT:Hid (Q2P l k=if Q7 l k [60,33,45,45]=true then Q1d l 4 k 4 [45,45,62]
  else if Q7 l k [60,33,91,67,68,65,84,65,91]=true then Q1d l 6 k 9 [93,93,62]
  else if Q7 l k [60,63]=true then Q1d l 5 k 2 [63,62]
  else if Q7 l k [60,33,68,79,67,84,89,80,69]=true then Q5u l k
  else if Q7 l k [60,47]=true then Q5t l k
  else if 0<Ql l (k+1)then Q2F l k
  else(11,k+1,false)):=rfl
 clear hr;generalize Q2P l k=t at HT ⊢;generalize Q7 l k [60,33,45,45]=sa at HSa HT;generalize Q7 l k [60,33,91,67,68,65,84,65,91]=sb at HSb HT;generalize Q7 l k [60,63]=sc at HSc HT;generalize Q7 l k [60,33,68,79,67,84,89,80,69]=sd at HSd HT HUd;generalize Q7 l k [60,47]=se at HSe HT HUe;generalize Q1d l 4 k 4 [45,45,62]=ua at HUa HT;generalize Q1d l 6 k 9 [93,93,62]=ub at HUb HT;generalize Q1d l 5 k 2 [63,62]=uc at HUc HT;generalize Q5u l k=ud at HUd HT;generalize Q5t l k=ue at HUe HT;generalize Q2F l k=uf at HUf HT;generalize Ql l (k+1)=ld at HLD HT;obtain⟨kka,tta,wwa⟩:=ua;obtain⟨kkb,ttb,wwb⟩:=ub;obtain⟨kkc,ttc,wwc⟩:=uc;obtain⟨kkd,ttd,wwd⟩:=ud;obtain⟨kke,tte,wwe⟩:=ue;obtain⟨kkf,ttf,wwf⟩:=uf;go_enter func132,ntmps132
 go_wp2_with fail
 have HTH0:=hid (Q29 w #[.int .i64 0,.int .i64 0,.int .i64 0,.bool false] 178);have HB0:=hid (ba w (.cells #[.int .i64 0,.int .i64 0,.int .i64 0,.bool false] 178));have HSZ:Hid (w.heap.size<(w.alloc (.cells #[.int .i64 0,.int .i64 0,.int .i64 0,.bool false] 178)).heap.size):=by simp[Hid]
 generalize w.alloc (.cells #[.int .i64 0,.int .i64 0,.int .i64 0,.bool false] 178)=W0 at HTH0 HB0 HSZ;have HTH0:Hid (W0.there w.heap.size 0 4):=HTH0.out;refine(HSa _ HB0.out).out.mono ?_;rintro e va ⟨rfl,hb⟩;have HBa:=hid (HB0.out.trans (hb.mono HB0.out.size));have HTHa:Hid (va.there w.heap.size 0 4):=Qr HTH0.out hb HSZ.out;have HLTa:Hid (w.heap.size<va.heap.size):=lt_of_lt_of_le HSZ.out hb.size;clear hb HSa;cases sa with
 |true =>
  have HE:Hid (t=(kka,tta,wwa)):=HT.out;clear HT;go_wp2_with fail
  refine(HUa _ HBa.out).out.mono ?_;rintro e xa ⟨rfl,hb⟩;have HBx:=hid (HBa.out.trans (hb.mono HBa.out.size));have HTHx:Hid (xa.there w.heap.size 0 4):=Qr HTHa.out hb HLTa.out;clear hb;have HL9:=hid (Qk (P:=prog) (T:=178) xa w.heap.size [.int .i64 kka,.int .i64 k,.int .i64 (tta),.bool wwa] HTHx.out (by kernel_rfl) underlying178 rfl)
  have HB9:=hid (Qb HBx.out w.heap.size (le_refl _) [.int .i64 kka,.int .i64 k,.int .i64 (tta),.bool wwa] 0);obtain⟨⟨z0,hz0⟩,hf0⟩:=Q2 HTHx.out 0 (by decide)
  obtain⟨⟨z1,hz1⟩,hf1⟩:=Q2 HTHx.out 1 (by decide)
  obtain⟨⟨z2,hz2⟩,hf2⟩:=Q2 HTHx.out 2 (by decide)
  obtain⟨⟨z3,hz3⟩,hf3⟩:=Q2 HTHx.out 3 (by decide)
  go_wp2
  refine bodyPost_ret (Qg rfl _ rfl HL9.out) rfl ?_;rw[HE.out];exact⟨rfl,HB9.out⟩
 |false =>
  go_wp2_with fail
  refine(HSb _ HBa.out).out.mono ?_;rintro e vb ⟨rfl,hb⟩;have HBb:=hid (HBa.out.trans (hb.mono HBa.out.size));have HTHb:Hid (vb.there w.heap.size 0 4):=Qr HTHa.out hb HLTa.out;have HLTb:Hid (w.heap.size<vb.heap.size):=lt_of_lt_of_le HLTa.out hb.size;clear hb HSb;cases sb with
  |true =>
   have HE:Hid (t=(kkb,ttb,wwb)):=HT.out;clear HT;go_wp2_with fail
   refine(HUb _ HBb.out).out.mono ?_;rintro e xb ⟨rfl,hb⟩;have HBx:=hid (HBb.out.trans (hb.mono HBb.out.size));have HTHx:Hid (xb.there w.heap.size 0 4):=Qr HTHb.out hb HLTb.out;clear hb;have HL9:=hid (Qk (P:=prog) (T:=178) xb w.heap.size [.int .i64 kkb,.int .i64 k,.int .i64 (ttb),.bool wwb] HTHx.out (by kernel_rfl) underlying178 rfl)
   have HB9:=hid (Qb HBx.out w.heap.size (le_refl _) [.int .i64 kkb,.int .i64 k,.int .i64 (ttb),.bool wwb] 0);obtain⟨⟨z0,hz0⟩,hf0⟩:=Q2 HTHx.out 0 (by decide)
   obtain⟨⟨z1,hz1⟩,hf1⟩:=Q2 HTHx.out 1 (by decide)
   obtain⟨⟨z2,hz2⟩,hf2⟩:=Q2 HTHx.out 2 (by decide)
   obtain⟨⟨z3,hz3⟩,hf3⟩:=Q2 HTHx.out 3 (by decide)
   go_wp2
   refine bodyPost_ret (Qg rfl _ rfl HL9.out) rfl ?_;rw[HE.out];exact⟨rfl,HB9.out⟩
  |false =>
   go_wp2_with fail
   refine(HSc _ HBb.out).out.mono ?_;rintro e vc ⟨rfl,hb⟩;have HBc:=hid (HBb.out.trans (hb.mono HBb.out.size));have HTHc:Hid (vc.there w.heap.size 0 4):=Qr HTHb.out hb HLTb.out;have HLTc:Hid (w.heap.size<vc.heap.size):=lt_of_lt_of_le HLTb.out hb.size;clear hb HSc;cases sc with
   |true =>
    have HE:Hid (t=(kkc,ttc,wwc)):=HT.out;clear HT;go_wp2_with fail
    refine(HUc _ HBc.out).out.mono ?_;rintro e xc ⟨rfl,hb⟩;have HBx:=hid (HBc.out.trans (hb.mono HBc.out.size));have HTHx:Hid (xc.there w.heap.size 0 4):=Qr HTHc.out hb HLTc.out;clear hb;have HL9:=hid (Qk (P:=prog) (T:=178) xc w.heap.size [.int .i64 kkc,.int .i64 k,.int .i64 (ttc),.bool wwc] HTHx.out (by kernel_rfl) underlying178 rfl)
    have HB9:=hid (Qb HBx.out w.heap.size (le_refl _) [.int .i64 kkc,.int .i64 k,.int .i64 (ttc),.bool wwc] 0);obtain⟨⟨z0,hz0⟩,hf0⟩:=Q2 HTHx.out 0 (by decide)
    obtain⟨⟨z1,hz1⟩,hf1⟩:=Q2 HTHx.out 1 (by decide)
    obtain⟨⟨z2,hz2⟩,hf2⟩:=Q2 HTHx.out 2 (by decide)
    obtain⟨⟨z3,hz3⟩,hf3⟩:=Q2 HTHx.out 3 (by decide)
    go_wp2
    refine bodyPost_ret (Qg rfl _ rfl HL9.out) rfl ?_;rw[HE.out];exact⟨rfl,HB9.out⟩
   |false =>
    go_wp2_with fail
    refine(HSd _ HBc.out).out.mono ?_;rintro e vd ⟨rfl,hb⟩;have HBd:=hid (HBc.out.trans (hb.mono HBc.out.size));have HTHd:Hid (vd.there w.heap.size 0 4):=Qr HTHc.out hb HLTc.out;have HLTd:Hid (w.heap.size<vd.heap.size):=lt_of_lt_of_le HLTc.out hb.size;clear hb HSd;cases sd with
    |true =>
     have HE:Hid (t=(kkd,ttd,wwd)):=HT.out;clear HT;go_wp2_with fail
     refine(HUd (by first|trivial|rfl) _ HBd.out).out.mono ?_
     rintro e xd ⟨rfl,hb⟩;have HBx:=hid (HBd.out.trans (hb.mono HBd.out.size));have HTHx:Hid (xd.there w.heap.size 0 4):=Qr HTHd.out hb HLTd.out;clear hb;have HL9:=hid (Qk (P:=prog) (T:=178) xd w.heap.size [.int .i64 kkd,.int .i64 k,.int .i64 (ttd),.bool wwd] HTHx.out (by kernel_rfl) underlying178 rfl)
     have HB9:=hid (Qb HBx.out w.heap.size (le_refl _) [.int .i64 kkd,.int .i64 k,.int .i64 (ttd),.bool wwd] 0);obtain⟨⟨z0,hz0⟩,hf0⟩:=Q2 HTHx.out 0 (by decide)
     obtain⟨⟨z1,hz1⟩,hf1⟩:=Q2 HTHx.out 1 (by decide)
     obtain⟨⟨z2,hz2⟩,hf2⟩:=Q2 HTHx.out 2 (by decide)
     obtain⟨⟨z3,hz3⟩,hf3⟩:=Q2 HTHx.out 3 (by decide)
     go_wp2
     refine bodyPost_ret (Qg rfl _ rfl HL9.out) rfl ?_;rw[HE.out];exact⟨rfl,HB9.out⟩
    |false =>
     go_wp2_with fail
     refine(HSe _ HBd.out).out.mono ?_;rintro e ve ⟨rfl,hb⟩;have HBe:=hid (HBd.out.trans (hb.mono HBd.out.size));have HTHe:Hid (ve.there w.heap.size 0 4):=Qr HTHd.out hb HLTd.out;have HLTe:Hid (w.heap.size<ve.heap.size):=lt_of_lt_of_le HLTd.out hb.size;clear hb HSe;cases se with
     |true =>
      have HE:Hid (t=(kke,tte,wwe)):=HT.out;clear HT;go_wp2_with fail
      refine(HUe (by first|trivial|rfl) _ HBe.out).out.mono ?_
      rintro e xe ⟨rfl,hb⟩;have HBx:=hid (HBe.out.trans (hb.mono HBe.out.size));have HTHx:Hid (xe.there w.heap.size 0 4):=Qr HTHe.out hb HLTe.out;clear hb;have HL9:=hid (Qk (P:=prog) (T:=178) xe w.heap.size [.int .i64 kke,.int .i64 k,.int .i64 (tte),.bool wwe] HTHx.out (by kernel_rfl) underlying178 rfl)
      have HB9:=hid (Qb HBx.out w.heap.size (le_refl _) [.int .i64 kke,.int .i64 k,.int .i64 (tte),.bool wwe] 0);obtain⟨⟨z0,hz0⟩,hf0⟩:=Q2 HTHx.out 0 (by decide)
      obtain⟨⟨z1,hz1⟩,hf1⟩:=Q2 HTHx.out 1 (by decide)
      obtain⟨⟨z2,hz2⟩,hf2⟩:=Q2 HTHx.out 2 (by decide)
      obtain⟨⟨z3,hz3⟩,hf3⟩:=Q2 HTHx.out 3 (by decide)
      go_wp2
      refine bodyPost_ret (Qg rfl _ rfl HL9.out) rfl ?_;rw[HE.out];exact⟨rfl,HB9.out⟩
     |false =>
      go_wp2_with fail
      refine(HLD _ HBe.out).out.mono ?_;rintro e vf ⟨rfl,hb⟩;have HBf:=hid (HBe.out.trans (hb.mono HBe.out.size));have HTHf:Hid (vf.there w.heap.size 0 4):=Qr HTHe.out hb HLTe.out;have HLTf:Hid (w.heap.size<vf.heap.size):=lt_of_lt_of_le HLTe.out hb.size;clear hb HLD;by_cases hl0:0<ld
      ·have hl0i:(ld:Int) > 0:=by omega
       have HE:Hid (t=(kkf,ttf,wwf)):=by rw[Hid,HT.out];simp[hl0]
       clear HT;go_wp2_with fail
       refine(HUf _ HBf.out).out.mono ?_;rintro e xf ⟨rfl,hb⟩;have HBx:=hid (HBf.out.trans (hb.mono HBf.out.size));have HTHx:Hid (xf.there w.heap.size 0 4):=Qr HTHf.out hb HLTf.out;clear hb;have HL9:=hid (Qk (P:=prog) (T:=178) xf w.heap.size [.int .i64 kkf,.int .i64 k,.int .i64 (ttf),.bool wwf] HTHx.out (by kernel_rfl) underlying178 rfl)
       have HB9:=hid (Qb HBx.out w.heap.size (le_refl _) [.int .i64 kkf,.int .i64 k,.int .i64 (ttf),.bool wwf] 0);obtain⟨⟨z0,hz0⟩,hf0⟩:=Q2 HTHx.out 0 (by decide)
       obtain⟨⟨z1,hz1⟩,hf1⟩:=Q2 HTHx.out 1 (by decide)
       obtain⟨⟨z2,hz2⟩,hf2⟩:=Q2 HTHx.out 2 (by decide)
       obtain⟨⟨z3,hz3⟩,hf3⟩:=Q2 HTHx.out 3 (by decide)
       go_wp2
       refine bodyPost_ret (Qg rfl _ rfl HL9.out) rfl ?_;rw[HE.out];exact⟨rfl,HB9.out⟩
      ·have hl0i:¬(ld:Int) > 0:=by omega
       have HE:Hid (t=(11,k+1,false)):=by rw[Hid,HT.out];simp[hl0]
       clear HT;have HL9:=hid (Qk (P:=prog) (T:=178) vf w.heap.size [.int .i64 11,.int .i64 k,.int .i64 ((k:Int)+1),.bool false] HTHf.out (by kernel_rfl) underlying178 rfl)
       have HB9:=hid (Qb HBf.out w.heap.size (le_refl _) [.int .i64 11,.int .i64 k,.int .i64 ((k:Int)+1),.bool false] 0);obtain⟨⟨z0,hz0⟩,hf0⟩:=Q2 HTHf.out 0 (by decide)
       obtain⟨⟨z1,hz1⟩,hf1⟩:=Q2 HTHf.out 1 (by decide)
       obtain⟨⟨z2,hz2⟩,hf2⟩:=Q2 HTHf.out 2 (by decide)
       obtain⟨⟨z3,hz3⟩,hf3⟩:=Q2 HTHf.out 3 (by decide)
       go_wp2
       refine bodyPost_ret (Qg rfl _ rfl HL9.out) rfl ?_;rw[HE.out];exact⟨by simp[Q1t],HB9.out⟩
theorem Qed(r:Int)(w:World):Calls prog 134 #[.int .i32 r] w fun e w'=>e=.returned (.bool (Q20 r))/\w=w':=by
 by_cases h1:r=60
 ·subst h1
  go_enter func134,ntmps134
  go_wp2
  go_ret
  exact⟨rfl,rfl⟩
 ·have h1b:(r != 60)=true:=by simpa using h1
  by_cases h2:r=38
  ·subst h2
   clear h1;go_enter func134,ntmps134
   go_wp2
   go_ret
   exact⟨rfl,rfl⟩
  ·have h2b:(r != 38)=true:=by simpa using h2
   have HE:Hid (Q20 r=(r != -1)):=by rw[Hid,Q20,h1b,h2b,Bool.true_and,Bool.true_and]
   clear h1 h2;go_enter func134,ntmps134
   go_wp2
   go_ret
   exact⟨Qw HE.out.symm,rfl⟩
theorem Qb6(w:World):Q3I prog 134 #[] Q20 w:=fun W r _=>(Qed r W).mono fun _ _ ⟨h1,h2⟩=>⟨h1,h2 ▸ Below.refl _ _⟩
theorem QgS:∀args w,(callFunc 134 args).run prog w=.ok (.enter 134 args) w:=enters_of func134 (by kernel_rfl) rfl
theorem Qgw(S:Nat->Prop)(A:Option Addr)(n c:Nat)(l:List Int)(k:Nat)(w:World)(hr:Rd w S 1 A n c (rc l))(hk:k<l.length)(hl9:l.length<=1000000000) :
  Calls prog 92 #[.slice A n c,.int .i64 k] w fun e w'=>e=.returned (.tuple #[Q1t (QZ l k) k,.bool true])/\Below w.heap.size w w':=by
 obtain rfl:=hr.rlen;have hle:=hr.le;have hmx:c<=9223372036854775807:=hr.max;by_cases h38:l[k]=38
 ·have HE:QZ l k=Q4q l k:=by rw[QZ,Q7H hk,h38];rfl
  rw[HE];exact Qdy S A _ c l k w hr (by rw[List.getElem?_eq_getElem hk,h38]) hl9
 ·obtain⟨b,o,rfl,hc0⟩:=hr.rune hk
  have hca:=fun ob=>Q6s (ba w ob) hc0
  have hki:¬(k:Int) ≥ (l.length:Int):=by omega
  have hkj:(k:Int)<(l.length:Int):=by omega
  have HMK:=fun W (h:Below w.heap.size w W)=>hid (Qeh S _ _ c l k W (hr.below h) hk hl9)
  have HMK:∀W,Below w.heap.size w W->Hid (Calls prog 132 #[.slice (some ⟨b,o,none⟩) l.length c,.int .i64 k] W fun e w'=>e=.returned (.agg #[.int .i64 (Q2P l k).1,.int .i64 k,.int .i64 (Q2P l k).2.1,.bool (Q2P l k).2.2])/\Below W.heap.size W w'):=HMK
  have HRN:=fun W (h:Below w.heap.size w W)=>(Q6j S _ l.length c l k _ #[] Q20 W QgS (hr.below h) (Qb6 W))
  have hrn:Q1R Q20 l k=((l.drop k).takeWhile Q20).length:=by rw[Q1R,if_neg (by omega),Int.toNat_natCast]
  rw[hrn]at HRN;have HRN:=fun W h=>hid (HRN W h)
  have hrl:=(List.takeWhile_sublist Q20 (l:=l.drop k)).length_le;rw[List.length_drop]at hrl;have HT:Hid (QZ l k=if l[k]=60 then Q2P l k else if l[k]=38 then Q4q l k else if l[k]=-1 then(11,k+1,false)else(1,k+((l.drop k).takeWhile Q20).length,true)):=by rw[Hid,QZ,Q7H hk]
  clear hr hrn;generalize QZ l k=t at HT ⊢;generalize Q2P l k=mk at HMK HT;generalize ((l.drop k).takeWhile Q20).length=rn at HRN HT hrl;obtain⟨mka,mkb,mkc⟩:=mk;generalize l[k]=r at hc0 hca HT h38;have h38b:(r == 38)=false:=by simpa using h38
  by_cases h60:r=60
  ·have HE:Hid (t=(mka,mkb,mkc)):=by rw[Hid,HT.out,if_pos h60]
   subst h60;clear HT h38 hc0 HRN;go_enter func92,ntmps92
   go_wp2_with fail
   have HTH0:=hid (Q29 w #[.int .i64 0,.int .i64 0,.int .i64 0,.bool false] 178);have HB0:=hid (ba w (.cells #[.int .i64 0,.int .i64 0,.int .i64 0,.bool false] 178));have HSZ:Hid (w.heap.size<(w.alloc (.cells #[.int .i64 0,.int .i64 0,.int .i64 0,.bool false] 178)).heap.size):=by simp[Hid]
   generalize w.alloc (.cells #[.int .i64 0,.int .i64 0,.int .i64 0,.bool false] 178)=W0 at HTH0 HB0 HSZ;refine(HMK _ HB0.out).out.mono ?_;rintro e w1 ⟨rfl,hb1⟩;have HB1:=hid (HB0.out.trans (hb1.mono HB0.out.size));have HTH1:Hid (w1.there w.heap.size 0 4):=Qr HTH0.out hb1 HSZ.out;clear hb1 HTH0 HSZ;have HL9:=hid (Qk (P:=prog) (T:=178) w1 w.heap.size [.int .i64 mka,.int .i64 k,.int .i64 (mkb),.bool mkc] HTH1.out (by kernel_rfl) underlying178 rfl)
   have HB9:=hid (Qb HB1.out w.heap.size (le_refl _) [.int .i64 mka,.int .i64 k,.int .i64 (mkb),.bool mkc] 0);obtain⟨⟨z0,hz0⟩,hf0⟩:=Q2 HTH1.out 0 (by decide)
   obtain⟨⟨z1,hz1⟩,hf1⟩:=Q2 HTH1.out 1 (by decide)
   obtain⟨⟨z2,hz2⟩,hf2⟩:=Q2 HTH1.out 2 (by decide)
   obtain⟨⟨z3,hz3⟩,hf3⟩:=Q2 HTH1.out 3 (by decide)
   go_wp2
   refine bodyPost_ret (Q3r rfl _ rfl HL9.out) rfl ?_;rw[HE.out];exact⟨rfl,HB9.out⟩
  ·have h60b:(r == 60)=false:=by simpa using h60
   by_cases h1:r=-1
   ·have HE:Hid (t=(11,k+1,false)):=by rw[Hid,HT.out,if_neg h60,if_neg h38,if_pos h1]
    subst h1;clear HT h38 h60 hc0 HRN HMK;have HL9:=hid (QiC (P:=prog) (T:=178) w [.int .i64 11,.int .i64 k,.int .i64 ((k:Int)+1),.bool false] (by kernel_rfl) underlying178 rfl)
    have HB9:=hid (ba w (.cells #[.int .i64 11,.int .i64 k,.int .i64 ((k:Int)+1),.bool false] 178));go_enter func92,ntmps92
    go_wp2
    refine bodyPost_ret (Q3r rfl _ rfl HL9.out) rfl ?_;rw[HE.out];exact⟨by simp[Q1t],HB9.out⟩
   ·have h1b:(r == -1)=false:=by simpa using h1
    have HE:Hid (t=(1,k+rn,true)):=by rw[Hid,HT.out,if_neg h60,if_neg h38,if_neg h1]
    clear HT h38 h60 h1 hc0 HMK;go_enter func92,ntmps92
    go_wp2_with fail
    have HTH0:=hid (Q29 w #[.int .i64 0,.int .i64 0,.int .i64 0,.bool false] 178);have HB0:=hid (ba w (.cells #[.int .i64 0,.int .i64 0,.int .i64 0,.bool false] 178));have HSZ:Hid (w.heap.size<(w.alloc (.cells #[.int .i64 0,.int .i64 0,.int .i64 0,.bool false] 178)).heap.size):=by simp[Hid]
    generalize w.alloc (.cells #[.int .i64 0,.int .i64 0,.int .i64 0,.bool false] 178)=W0 at HTH0 HB0 HSZ;refine(HRN _ HB0.out).out.mono ?_;rintro e w1 ⟨rfl,hb1⟩;have HB1:=hid (HB0.out.trans (hb1.mono HB0.out.size));have HTH1:Hid (w1.there w.heap.size 0 4):=Qr HTH0.out hb1 HSZ.out;clear hb1 HTH0 HSZ;have HL9:=hid (Qk (P:=prog) (T:=178) w1 w.heap.size [.int .i64 1,.int .i64 k,.int .i64 ((k:Int)+(rn:Int)),.bool true] HTH1.out (by kernel_rfl) underlying178 rfl)
    have HB9:=hid (Qb HB1.out w.heap.size (le_refl _) [.int .i64 1,.int .i64 k,.int .i64 ((k:Int)+(rn:Int)),.bool true] 0);obtain⟨⟨z0,hz0⟩,hf0⟩:=Q2 HTH1.out 0 (by decide)
    obtain⟨⟨z1,hz1⟩,hf1⟩:=Q2 HTH1.out 1 (by decide)
    obtain⟨⟨z2,hz2⟩,hf2⟩:=Q2 HTH1.out 2 (by decide)
    obtain⟨⟨z3,hz3⟩,hf3⟩:=Q2 HTH1.out 3 (by decide)
    go_wp2
    refine bodyPost_ret (Q3r rfl _ rfl HL9.out) rfl ?_;rw[HE.out];exact⟨by simp[Q1t],HB9.out⟩
end
section
open Go.RowKit Go.Lib
theorem QdT(l:List Int):∀(n k:Nat),l.length-k<=n->k<=l.length->k<=(Q3K l k).1/\(Q3K l k).1<=l.length:=by
 intro n;induction n with
 |zero =>
  intro k h hk;rw[Q8s l k (by omega)]
  simp only;omega
 |succ n ih =>
  intro k h hk;by_cases jE:k<l.length
  ·by_cases h1:l[k]=62
   ·rw[QdH l k jE h1];simp only;omega
   ·by_cases h2:l[k]=60
    ·rw[Qd9 l k jE h2];simp only;omega
    ·have:=ih (k+1) (by omega) (by omega)
     rw[Qa1 l k jE h1 h2];omega
  ·rw[Q8s l k jE];simp only;omega
theorem QcF(l:List Int):∀(n k:Nat)(ok:Bool),l.length-k<=n->k<=l.length->k<=(Q2G l k ok).1/\(Q2G l k ok).1<=l.length:=by
 intro n;induction n with
 |zero =>
  intro k ok h hk;rw[Q6f l k ok (by omega)]
  simp only;omega
 |succ n ih =>
  intro k ok h hk;by_cases jE:k<l.length/\ok=true
  ·obtain⟨jE,rfl⟩:=jE
   by_cases h1:l[k]=62
   ·rw[Qbh l k jE h1];simp only;omega
   ·cases h2:Q4V l[k]with
    |true =>
     have:=Q3p l k jE
     have:=ih (QS l k).1 (QS l k).2 (by omega) (by omega)
     rw[QaN l k jE h1 h2];omega
    |false =>
     by_cases h3:l[k]=91
     ·have:=Q6W l k jE
      have:=ih (Q79 l k).1 (Q79 l k).2 (by omega) (by omega)
      rw[Qb3 l k jE h3];omega
     ·have:=ih (k+1) true (by omega) (by omega)
      rw[Qa8 l k jE h1 h2 h3];omega
  ·rw[Q6f l k ok jE];simp only;omega
theorem QaM(l:List Int)(k:Nat)(hk:k<l.length):k<(Q2P l k).2.1/\(Q2P l k).2.1<=l.length:=by
 unfold Q2P;split
 ·exact Q3v l _ k _ _ hk (by decide)
 ·split
  ·exact Q3v l _ k _ _ hk (by decide)
  ·split
   ·exact Q3v l _ k _ _ hk (by decide)
   ·split
    ·rename_i h
     have h9:=Q38 l k _ (by omega) h
     have h9:k+9<=l.length:=by simpa using h9
     have:=QcF l l.length (k+9) true (by omega) (by omega)
     unfold Q5u;simp only;omega
    ·split
     ·rename_i h
      have h2:=Q38 l k _ (by omega) h
      have h2:k+2<=l.length:=by simpa using h2
      have:=QdT l l.length (k+2) (by omega) (by omega)
      unfold Q5t;simp only;omega
     ·split
      ·have h:=Q3V l true l.length (k+1) (by omega) (by omega)
       unfold Q2F;split
       ·simp only;omega
       ·rename_i hb
        have:=h.2.2 (by simpa using hb)
        split<;>(simp only;omega)
      ·simp only;omega
theorem Q3S(l:List Int)(k:Nat)(hk:k<l.length):k<(QZ l k).2.1/\(QZ l k).2.1<=l.length:=by
 unfold QZ;rw[Q7H hk];split
 ·exact QaM l k hk
 ·split
  ·exact⟨QiI l k,QkE l k hk⟩
  ·split
   ·simp only;omega
   ·rename_i h1 h2 h3
    have hp:Q20 l[k]=true:=by simp[Q20,h1,h2,h3]
    have hs:=(List.takeWhile_sublist Q20 (l:=l.drop k)).length_le;rw[List.length_drop]at hs;rw[List.drop_eq_getElem_cons hk,List.takeWhile_cons,hp]at hs ⊢;simp only[if_true,List.length_cons]at hs ⊢;omega
def Q42(l:List Int)(k:Nat):List ((Nat×Nat×Bool)×Nat):=if h:k<l.length then(QZ l k,k)::Q42 l (QZ l k).2.1 else []
termination_by l.length-k
decreasing_by
 have:=Q3S l k h;omega
theorem Qau(l:List Int)(k:Nat)(h:k<l.length):Q42 l k=(QZ l k,k)::Q42 l (QZ l k).2.1:=by
 conv=>lhs;rw[Q42]
 rw[dif_pos h]
theorem QbM(l:List Int)(k:Nat)(h:¬k<l.length):Q42 l k=[]:=by rw[Q42,dif_neg h]
end
section
open Go.RowKit Tryz
def Q9o(r:Int):Bool:=r == 9||r == 10||r == 13||r == 32
theorem QeG(r:Int):Q9o r=Q8 r:=by
 unfold Q9o Q8;cases(r == 9)<;>cases(r == 10)<;>cases(r == 13)<;>cases(r == 32)<;>rfl
theorem Qeo(r:Int)(w:World):Calls prog 86 #[.int .i32 r] w fun e w'=>e=.returned (.bool (Q8 r))/\w=w':=by
 rw[<-QeG];go_enter func86,ntmps86
 go_wp2
 all_goals (go_ret;exact⟨Qw (by simp[Q9o, *]),rfl⟩)
end
section
open Go.RowKit Go.Lib Tryz
theorem Q6K(c:UInt8):∀l:List UInt8,(0<=Lib.indexByte l c)↔l.contains c=true
 | []=>by simp[Lib.indexByte]
 |b::l=>by
  have ih:=Q6K c l;have hg:=Lib.indexByte_ge l c;unfold Lib.indexByte;by_cases hb:b=c
  ·subst hb;simp
  ·rw[if_neg (by simpa using hb)]
   simp only[List.contains_cons];rw[show(c == b)=false by simpa using fun h=>hb h.symm,Bool.false_or,<-ih]
   split
   ·rename_i h;have:=beq_iff_eq.1 h;omega
   ·rename_i h;have h:¬Lib.indexByte l c=-1:=by simpa using h
    omega
theorem Q98(s:ByteArray)(c:Int)(w:World) :
  Calls prog 273 #[.string s,.int .u8 c] w fun e w'=>e=.returned (.int .i64 (Lib.indexByte s.data.toList c.toNat.toUInt8))/\w=w':=by
 go_enter func273,ntmps273
 go_wp2
 rw[run_callFunc_extern func297 (by kernel_rfl) (by kernel_rfl) (by kernel_rfl) (e:=Extern.BytealgIndexByte.indexByte) (by kernel_rfl),Lib.run_indexByteString]
 simp only[Result.andThen];rw[Oper.upon_value];go_wp2
 go_ret
 exact⟨rfl,rfl⟩
theorem Qax(s:ByteArray)(c:UInt8)(w:World) :
  Calls prog 284 #[.string s,.string ⟨#[c]⟩] w fun e w'=>∃k:Int,e=.returned (.int .i64 k)/\(0<=k↔s.data.toList.contains c=true)/\w=w':=by
 have HI:=fun W=>hid (Q98 s c.toNat W)
 have hc:((c.toNat:Int)).toNat.toUInt8=c:=by simp
 rw[hc]at HI;have HX:=hid (Q6K c s.data.toList)
 have HS:=hid (show([c] == s.toList)=true->(0<=(0:Int)↔s.data.toList.contains c=true) from fun h=>by
  have e:s.data.toList=[c]:=by rw[<-ByteArray.toList_eq];exact(beq_iff_eq.1 h).symm
  rw[e];simp)
 generalize Lib.indexByte s.data.toList c=q at HI HX;go_enter func284,ntmps284
 go_wp2_with (go_at_call 273;refine(HI _).out.mono ?_;rintro e w' ⟨rfl,rfl⟩)
 ·have h:([c] == s.toList)=true:=by assumption
  go_ret
  exact⟨0,rfl,HS.out h,rfl⟩
 ·go_ret
  exact⟨q,rfl,HX.out,rfl⟩
theorem Qce(s:ByteArray)(c:UInt8)(w:World) :
  Calls prog 283 #[.string s,.string ⟨#[c]⟩] w fun e w'=>∃k:Int,e=.returned (.int .i64 k)/\(0<=k↔s.data.toList.contains c=true)/\w=w':=by
 have HI:=fun W=>hid (Qax s c W)
 go_enter func283,ntmps283
 go_wp2_with fail
 refine(HI _).out.mono ?_;rintro e w' ⟨k,rfl,hk,rfl⟩;have HK:=hid hk;clear hk;go_wp2
 go_ret
 exact⟨k,rfl,HK.out,rfl⟩
theorem Q8O(s:ByteArray)(c:UInt8)(w:World) :
  Calls prog 258 #[.string s,.string ⟨#[c]⟩] w fun e w'=>e=.returned (.bool (s.data.toList.contains c))/\w=w':=by
 have HI:=fun W=>hid (Qce s c W)
 go_enter func258,ntmps258
 go_wp2_with fail
 refine(HI _).out.mono ?_;rintro e w' ⟨k,rfl,hk,rfl⟩;have HK:=hid hk;clear hk;go_wp2
 go_ret
 refine⟨Qw ?_,rfl⟩;rw[Bool.eq_iff_iff,<-HK.out,decide_eq_true_iff]
end
section
open Go.RowKit Go.Lib
end
section
open Go.RowKit Go.Lib Tryz
theorem Qf7(r:Int)(w:World):Calls prog 330 #[.int .i32 r] w fun e w'=>e=.returned (.bool (QeI r))/\w=w':=by
 go_enter func330,ntmps330
 go_wp2
 go_ret
 exact⟨rfl,rfl⟩
theorem QgX(w:World):Q3I prog 330 #[] QeI w:=fun W r _=>(Qf7 r W).mono fun _ _ ⟨h1,h2⟩=>⟨h1,h2 ▸ Below.refl _ _⟩
theorem QfT:(prog.info? 260).map (·.size)=some 2:=by kernel_rfl
theorem Qmb:liesAt prog prog.depth 260 (2 / prog.cellsOf 260) 0 260 1=true:=by kernel_rfl
theorem QbJ:prog.cellsOf 5=1:=by kernel_rfl
theorem QlB(b:Nat)(w:World)(h0:w.cell? ⟨b,0,none⟩=some (.pointer (some ⟨b,0,none⟩))) :
  Calls prog 197 #[.pointer (some ⟨b,0,none⟩)] w fun e w'=>e=.returned (.tuple #[])/\w'=w:=by
 obtain⟨j,hj,_⟩:=Option.map_eq_some_iff.1 QfT;go_enter func197,ntmps197
 go_wp2
 rw[Lib.run_neq_ptr_same w _ underlying258 hj];go_wp2
 go_end0
 exact⟨rfl,rfl⟩
theorem QjM(b:Nat)(w:World)(h0:w.cell? ⟨b,0,none⟩=some (.pointer none))(hsh:w.shape? b=some (260,2))(hfz:w.frozen? ⟨b,0,none⟩=false) :
  Calls prog 197 #[.pointer (some ⟨b,0,none⟩)] w fun e w'=>e=.returned (.tuple #[])/\w'=w.setCell ⟨b,0,none⟩ (.pointer (some ⟨b,0,none⟩)):=by
 obtain⟨j,hj,hjs⟩:=Option.map_eq_some_iff.1 QfT;go_enter func197,ntmps197
 go_wp2
 rw[Lib.run_to_unsafe w ⟨b,0,none⟩ underlying258 underlying349 hj (by rw[hjs];decide) hsh (Nat.zero_lt_succ 1)]
 simp only[Result.andThen];rw[Oper.upon_value];go_wp2
 rw[run_callFunc_extern func237 (by kernel_rfl) (by kernel_rfl) (by kernel_rfl) (e:=Extern.AbiNoEscape.same) (by kernel_rfl)]
 rw[Lib.run_noEscape];simp only[Result.andThen];rw[Oper.upon_value];go_wp2
 rw[Lib.run_from_unsafe w ⟨b,0,none⟩ underlying349 underlying258 hj hsh Qmb];simp only[Result.andThen];rw[Oper.upon_value];go_wp2
 go_end0
 exact⟨rfl,rfl⟩
def Sb(B b:Nat)(xs:List UInt8)(w:World):Prop:=Lib.IsBuilder 260 5 B b (bc xs) w
theorem Qnh(B b:Nat)(xs:List UInt8)(w:World)(h:Sb B b xs w) :
  Calls prog 197 #[.pointer (some ⟨b,0,none⟩)] w fun e w'=>e=.returned (.tuple #[])/\Lib.BuilderAt 260 5 B b (.pointer (some ⟨b,0,none⟩)) (bc xs) w'/\Below B w w'/\∀k,k≠b->w'.heap[k]?=w.heap[k]?:=by
 rcases h with h|h
 ·refine(QjM b w h.cell0 h.shape h.frozen0).mono ?_
  rintro e w' ⟨rfl,rfl⟩;exact⟨rfl,h.used _,(Below.refl B w).setCell (p:=⟨b,0,none⟩) h.1 _,fun k hk=>Below.heap_setCell _ _ _ _ hk⟩
 ·refine(QlB b w h.cell0).mono ?_
  rintro e w' ⟨rfl,rfl⟩;exact⟨rfl,h,Below.refl B _,fun _ _=>rfl⟩
theorem Qdg(S:Nat->Prop)(A:Option Addr)(n c B b:Nat)(xs ys:List UInt8)(w:World)(h:Sb B b xs w)(hr:Rd w S 1 A n c (bc ys))(hS:¬S b)(hlen:xs.length+ys.length<=1000000000)(hBw:B<=w.heap.size) :
  Calls prog 154 #[.pointer (some ⟨b,0,none⟩),.slice A n c] w fun e w'=>e=.returned (.tuple #[.int .i64 n,.nilIface])/\Sb B b (xs++ys) w'/\Below B w w':=by
 have hn:n=ys.length:=by have:=hr.len;simpa using this.symm
 subst hn;have HR:=hid hr;have hcm:c<=9223372036854775807:=hr.max;have hle:=hr.le;clear hr;go_enter func154,ntmps154
 go_wp2_with (go_at_call 197;refine(Qnh B b xs w h).mono ?_);rintro e w1 ⟨rfl,h1,hb1,hk1⟩;obtain⟨hB,v,hbk,hown,hne⟩:=h1;have c0:w1.cell? ⟨b,0,none⟩=some (.pointer (some ⟨b,0,none⟩)):=by rw[cell_of_heap hbk];rfl
 have c1:w1.cell? ⟨b,1,none⟩=some v:=by rw[cell_of_heap hbk];rfl
 have HR1:=hid (HR.out.keep fun k hk _=>hk1 k (fun e=>hS (e ▸ hk)))
 have hs1:B<=w1.heap.size:=by have:=hb1.size;omega
 have hxl:(bc xs).length=xs.length:=by simp
 rw[hxl]at hown;obtain⟨A0,c2,rfl,hro⟩:=Q14 hown;have hc2m:c2<=9223372036854775807:=hro.max;have HO:=hid hown;clear hown hro hk1 HR h;go_wp2_with (at_builtin;refine Qct _ rfl (.tmp 12) (.tmp 13) rfl B _ _ _ rfl HO.out S _ _ _ ys rfl HR1.out (by omega) hs1 ?_)
 intro A4 c4 w4 hown4 hg4 hc4
 have hlt:b<w1.heap.size:=by
  rcases Nat.lt_or_ge b w1.heap.size with h'|h'
  ·exact h'
  ·simp[Array.getElem?_eq_none h']at hbk
 have hb2:w4.heap[b]?=some (.cells #[.pointer (some ⟨b,0,none⟩),.slice A0 xs.length c2] 260 (0,0)):=by
  rw[hg4.block b hlt (fun e=>hne e.symm)]
  exact hbk
 have d0:w4.cell? ⟨b,0,none⟩=some (.pointer (some ⟨b,0,none⟩)):=by rw[cell_of_heap hb2];rfl
 have d1:w4.cell? ⟨b,1,none⟩=some (.slice A0 xs.length c2):=by rw[cell_of_heap hb2];rfl
 have f1:w4.frozen? ⟨b,1,none⟩=false:=Lib.frozen_of_heap hb2 1;have HB4:=hid (Q41 hb1 hs1 HO.out hg4);have HO4:=hid hown4;clear hown4 hg4;go_wp2
 go_ret2
 refine⟨rfl,.inr ?_,HB4.out.setCell (p:=⟨b,1,none⟩) hB _⟩;exact Lib.BuilderAt.put hB hb2 (by simpa[bc]using HO4.out) (by decide)
theorem Qcm(B b:Nat)(l:List UInt8)(w:World)(h:Sb B b l w)(h0:l≠[]) :
  Calls prog 155 #[.pointer (some ⟨b,0,none⟩)] w fun e w'=>e=.returned (.string ⟨l.toArray⟩)/\Below B w w':=by
 obtain⟨p,hB,v,hbk,hown,hne⟩:∃p,Lib.BuilderAt 260 5 B b p (bc l) w:=by
  rcases h with h|h
  ·exact⟨_,h⟩
  ·exact⟨_,h⟩
 have hl0:l.length≠0:=by simpa using h0
 have hxl:(bc l).length=l.length:=by simp
 rw[hxl]at hown
 obtain⟨g,cap,cur,rfl,hbg,hg,hnc,hcm,hcs,htake⟩:∃g cap cur,v=.slice (some ⟨g,0,none⟩) l.length cap/\B<=g/\w.heap[g]?=some (.cells cur 5 (0,0))/\l.length<=cap/\cap<=maxLen/\cur.size=cap * 1/\cur.toList.take (l.length * 1)=bc l:=by
  rcases hown.2 with ⟨_,hz⟩|⟨g,cap,cur,hv,r⟩
  ·exact absurd hz hl0
  ·exact⟨g,cap,cur,hv,r⟩
 have c1:w.drew.cell? ⟨b,1,none⟩=some (.slice (some ⟨g,0,none⟩) l.length cap):=by
  have:w.drew.heap[b]?=some (.cells #[p,.slice (some ⟨g,0,none⟩) l.length cap] 260 (0,0)):=hbk
  rw[cell_of_heap this];rfl
 have hSD:(Builtin.unsafeSliceData_ #[64] 314 #[.slice (some ⟨g,0,none⟩) l.length cap]).run prog w.drew=.ok (.pointer (some ⟨g,0,none⟩)) w.drew :=
  Lib.run_unsafeSliceData_row _ _ _ _ _ _ (by omega)
 have hUS:(Builtin.unsafeString_ #[314,3] 9 #[.pointer (some ⟨g,0,none⟩),.int .i64 l.length]).run prog w.drew=.ok (.string ⟨l.toArray⟩) (w.drew.freeze ⟨g,0,none⟩ l.length):=by
  refine Lib.run_unsafeString_row w.drew 314 3 9 5 underlying314 QbJ g cur.size (by have hg':w.drew.heap[g]?=some (.cells cur 5 (0,0)):=hg;simp[World.shape?,hg']) l h0 (by omega) (by unfold maxLen at hcm;omega) ?_
  intro j x hx;have:=hown.cells (g:=g) rfl j (.int .u8 x.toNat) (by simp[bc,hx])
  exact this
 go_enter func155,ntmps155
 go_wp2
 go_region
 all_goals (go_wp2;go_ret;exact⟨rfl,Lib.below_freeze (Below.drew (Below.refl B w)) (p:=⟨g,0,none⟩) hbg _⟩)
def Q5e(l:List Int):List UInt8:=l.flatMap fun x=>if x=-1 then []else Q1Q [x]
theorem QgH(l:List Int){k:Nat}(h:k<l.length):Q5e (l.take (k+1))=Q5e (l.take k)++(if l[k]=-1 then []else Q1Q [l[k]]):=by
 rw[Q5e,Q5e,List.take_succ_eq_append_getElem h,List.flatMap_append];simp
theorem Qi2(l:List Int):(Q5e l).length<=4 * l.length:=by
 induction l with
 |nil=>exact zero_le _
 |cons x r ih =>
  have h1:(if x=-1 then([]:List UInt8)else Q1Q [x]).length<=4:=by
   split
   ·exact zero_le _
   ·have:=Q75 [x];simpa using this
  have e:Q5e (x::r)=(if x=-1 then []else Q1Q [x])++Q5e r:=rfl;rw[e,List.length_append,List.length_cons];omega
theorem Sb.below{B b:Nat}{xs:List UInt8}{w w':World}(h:Sb B b xs w)(hb:Below w.heap.size w w'):Sb B b xs w':=by
 have key:∀p,Lib.BuilderAt 260 5 B b p (bc xs) w->Lib.BuilderAt 260 5 B b p (bc xs) w':=by
  rintro p ⟨hB,v,hbk,hown,hne⟩;have hlt:b<w.heap.size:=Lib.BuilderAt.lt ⟨hB,v,hbk,hown,hne⟩;exact⟨hB,v,by rw[hb.block b hlt];exact hbk,QaY hown hb,hne⟩
 exact h.imp (key _) (key _)
theorem Sb.lt{B b:Nat}{xs:List UInt8}{w:World}(h:Sb B b xs w):b<w.heap.size:=by
 rcases h with h|h
 ·exact h.lt
 ·exact h.lt
theorem QlC(A:Option Addr)(n c i j:Nat)(w:World)(hij:i<=j)(hj:j<=n) :
  Calls prog 153 #[.agg #[.int .i64 0,.int .i64 0,.slice A n c,.slice none 0 0],.int .i64 i,.int .i64 j] w fun e w'=>e=.returned (.bool true)/\Below w.heap.size w w':=by
 go_enter func153,ntmps153
 go_wp2
 go_ret
 exact⟨rfl,(Below.refl _ w).alloc (le_refl _) _⟩
theorem QcJ(S:Nat->Prop)(A:Option Addr)(n c:Nat)(l:List Int)(i j:Nat)(w:World)(hr:Rd w S 1 A n c (rc l))(hij:i<=j)(hj:j<=l.length)(hl:l.length<=1000000)(hne:Q5e ((l.drop i).take (j-i))≠[]) :
  Calls prog 108 #[.agg #[.int .i64 0,.int .i64 0,.slice A n c,.slice none 0 0],.int .i64 i,.int .i64 j] w fun e w'=>e=.returned (.string ⟨(Q5e ((l.drop i).take (j-i))).toArray⟩)/\Below w.heap.size w w':=by
 obtain rfl:=hr.rlen;have hle:=hr.le;have hmx:c<=9223372036854775807:=hr.max;obtain⟨A2,hr2,hcut⟩:=hr.cutLH (P:=prog) (t:=24) underlying24 sizeOf21 hij hj;have hrc:((rc l).drop (i * 1)).take ((j-i) * 1)=rc ((l.drop i).take (j-i)):=by simp[rc,List.map_take,List.map_drop]
 rw[hrc]at hr2;obtain⟨s,hs⟩:∃s,s=(l.drop i).take (j-i):=⟨_,rfl⟩;rw[<-hs]at hr2 hne ⊢;have hsl:s.length=j-i:=by rw[hs,List.length_take,List.length_drop];omega
 have HR:=hid hr2;have HC:=hid hcut;clear hr hr2 hrc hs hcut;go_enter func108,ntmps108
 go_wp2_with (go_at_call 153;refine(QlC _ _ _ _ _ _ hij hj).mono ?_);rintro e w1 ⟨rfl,hb1⟩;have HB1:=hid (bt (ba w _) hb1);have hc0:w1.cell? ⟨w.heap.size,2,none⟩=some (.slice A l.length c):=Q6s hb1 (QiD w _ _ 2 rfl);have hlt0:w.heap.size<w1.heap.size:=World.block_lt_of_cell? w1 _ hc0;have hc1:(w1.alloc (.cells #[.pointer none,.slice none 0 0] 260)).cell? ⟨w.heap.size,2,none⟩=some (.slice A l.length c):=Q6s ((Below.refl _ w1).alloc (le_refl _) _) hc0;have HSB:Hid (Sb w1.heap.size w1.heap.size [] (w1.alloc (.cells #[.pointer none,.slice none 0 0] 260))):=Lib.fresh_isBuilder 260 5 w1;have hcut:=HC.out;clear hb1 hc0;go_wp2
 clear hcut
 go_loopw [21] (fun q wr=>∃(k:Nat),k<=s.length/\q=.int .i64 k/\Hid (Sb w1.heap.size w1.heap.size (Q5e (s.take k)) wr)/\Hid (Below w1.heap.size w1 wr))
  (fun q _=>s.length-(intOf q).toNat)
 case atStart=>exact⟨0,zero_le _,rfl,HSB.out,ba w1 _⟩
 case round =>
  obtain⟨k,hk,rfl,HO,HB⟩:=hrel;have hsz:=HB.out.size;have hblt:=HO.out.lt;have hfl:=Qi2 (s.take k);rw[List.length_take]at hfl;by_cases hlt:k<s.length
  ·obtain⟨b,u,rfl,hc2⟩:=(HR.out.below (bt HB1.out HB.out)).rune hlt
   have HST:=hid (QgH s hlt);generalize s[k]=r at hc2 HST;by_cases hb:r=-1
   ·have hS2:Q5e (s.take (k+1))=Q5e (s.take k):=by rw[HST.out,if_pos hb,List.append_nil]
    have HST2:=hid hS2;clear HST hS2;subst hb;go_wp2
    go_roundw
    case rel=>exact⟨k+1,by omega,by go_num,by rw[HST2.out];exact HO.out,HB.out⟩
    case measure=>simp[intOf];omega
   ·have hS2:Q5e (s.take (k+1))=Q5e (s.take k)++Q1Q [r]:=by rw[HST.out,if_neg hb]
    have HST2:=hid hS2;clear HST hS2;have hbl:=Q75 [r];simp only[List.length_singleton]at hbl;have hsa:(wr.alloc (.cells #[.int .i32 r] 21)).heap.size=wr.heap.size+1:=by simp
    go_wp2_with fail
    refine(QaZ _ _ 1 1 [r] _ (Rd.litN wr wr.heap.size rfl _ #[.int .i32 r] 1 1 rfl (by decide)) (by simp)).mono ?_
    rintro e w2 ⟨v,rfl,⟨n2,hown⟩,hb2⟩;have hn2:=Q9k hown;obtain⟨A3,c3,rfl,hro⟩:=Q14 hown;have HO2:=hid ((HO.out.below (ba wr _)).below hb2);have HB2:=hid (bb (bb HB.out (ba wr _) hsz) hb2 (by omega))
    have hsz2:=HB2.out.size;have HRO:=hid hro;have hc3:c3<=9223372036854775807:=hro.max;subst hn2;clear hown hb2 hro;go_wp2_with fail
    refine(Qdg _ A3 _ c3 w1.heap.size w1.heap.size (Q5e (s.take k)) (Q1Q [r]) w2 HO2.out HRO.out (by omega) (by omega) hsz2).mono ?_
    rintro e w3 ⟨rfl,h3,hb3⟩;have HO3:=hid h3;have HB3:=hid (HB2.out.trans hb3);clear h3 hb3;go_wp2
    go_roundw
    case rel=>exact⟨k+1,by omega,by go_num,by rw[HST2.out];exact HO3.out,HB3.out⟩
    case measure=>simp[intOf];omega
  ·have e:s.take k=s:=List.take_of_length_le (by omega)
   rw[e]at HO;go_wp2_with fail
   refine(Qcm w1.heap.size w1.heap.size (Q5e s) wr HO.out hne).mono ?_;rintro e w3 ⟨rfl,hb3⟩;have HB3:=hid (HB.out.trans hb3);clear hb3;go_wp2
   go_ret
   exact⟨rfl,HB1.out.trans (HB3.out.mono HB1.out.size)⟩
