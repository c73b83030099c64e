/- Lemmas, conditions told -/
import Derived.Test.YtibemhahkicbpaaGreatJ04
set_option maxRecDepth 99999
set_option maxHeartbeats 0
set_option linter.unusedSimpArgs false
set_option linter.unusedVariables false
namespace Go.Proofs.YtibemhahkicbpaaGreat
open Lib(hid)
open Nat(le_refl lt_of_lt_of_le zero_le)
open Go.RowKit Go.Lib
section
open Tryz
def Q3k(r:Int):Bool:=r == 34||r == 39
def Q2p(l:List Int)(q:Int)(k:Nat):Nat×Bool:=if h:k<l.length then(if l[k]=q then(k+1,true)else Q2p l q (k+1))else(l.length,false)
termination_by l.length-k
theorem Q6C(l:List Int)(q:Int)(k:Nat)(h:k<l.length)(hq:l[k]=q):Q2p l q k=(k+1,true):=by rw[Q2p,dif_pos h,if_pos hq]
theorem Q5Q(l:List Int)(q:Int)(k:Nat)(h:k<l.length)(hq:l[k]≠q):Q2p l q k=Q2p l q (k+1):=by rw[Q2p,dif_pos h,if_neg hq]
theorem Q3L(l:List Int)(q:Int)(k:Nat)(h:¬k<l.length):Q2p l q k=(l.length,false):=by rw[Q2p,dif_neg h]
theorem QfP(l:List Int)(q:Int):∀(n k:Nat),l.length-k<=n->k<=l.length->k<=(Q2p l q k).1/\(Q2p l q k).1<=l.length/\(k<l.length->k<(Q2p l q k).1\/(Q2p l q k).1=l.length):=by
 intro n;induction n with
 |zero =>
  intro k h hk;rw[Q3L l q k (by omega)]
  simp only;omega
 |succ n ih =>
  intro k h hk;by_cases hlt:k<l.length
  ·by_cases hq:l[k]=q
   ·rw[Q6C l q k hlt hq];simp only;omega
   ·rw[Q5Q l q k hlt hq]
    have:=ih (k+1) (by omega) (by omega)
    omega
  ·rw[Q3L l q k hlt];simp only;omega
def Q1a(l:List Int)(k:Nat):Nat×Bool:=Q2p l (l.getD k 0) (k+1)
theorem Q2C(l:List Int)(k:Nat)(h:k<l.length):k<(Q1a l k).1/\(Q1a l k).1<=l.length:=by
 have:=QfP l (l.getD k 0) l.length (k+1) (by omega) (by omega)
 unfold Q1a;omega
def QN(l:List Int)(stops:Bool)(k:Nat):Nat×Bool :=
 if h:k<l.length then
  (if Q3k l[k]then QN l stops (Q1a l k).1 else if l[k]=62 then(k,true)else if l[k]=60/\stops=true then(k,false)else QN l stops (k+1))
 else(l.length,false)
termination_by l.length-k
decreasing_by
 ·have:=Q2C l k (by assumption);omega
 ·omega
theorem Q2l(l:List Int)(s:Bool)(k:Nat)(h:¬k<l.length):QN l s k=(l.length,false):=by rw[QN,dif_neg h]
theorem Q50(l:List Int)(s:Bool)(k:Nat)(h:k<l.length)(hq:Q3k l[k]=true):QN l s k=QN l s (Q1a l k).1:=by
 conv=>lhs;rw[QN]
 rw[dif_pos h,if_pos hq]
theorem Q5K(l:List Int)(s:Bool)(k:Nat)(h:k<l.length)(hq:l[k]=62):QN l s k=(k,true):=by
 rw[QN,dif_pos h,if_neg (by rw[hq];decide),if_pos hq]
theorem Q7e(l:List Int)(k:Nat)(h:k<l.length)(hq:l[k]=60):QN l true k=(k,false):=by
 rw[QN,dif_pos h,if_neg (by rw[hq];decide),if_neg (by rw[hq];decide),if_pos ⟨hq,rfl⟩]
theorem Q4k(l:List Int)(s:Bool)(k:Nat)(h:k<l.length)(h1:Q3k l[k]=false)(h2:l[k]≠62)(h3:¬(l[k]=60/\s=true)):QN l s k=QN l s (k+1):=by
 conv=>lhs;rw[QN]
 rw[dif_pos h,if_neg (by simp[h1]),if_neg h2,if_neg h3]
theorem Q38(l:List Int)(s:Bool):∀(n k:Nat),l.length-k<=n->k<=l.length->k<=(QN l s k).1/\(QN l s k).1<=l.length/\((QN l s k).2=true->(QN l s k).1<l.length):=by
 intro n;induction n with
 |zero =>
  intro k h hk;rw[Q2l l s k (by omega)]
  simp;omega
 |succ n ih =>
  intro k h hk;by_cases hlt:k<l.length
  ·cases hq:Q3k l[k]with
   |true =>
    have:=Q2C l k hlt
    have:=ih (Q1a l k).1 (by omega) (by omega)
    rw[Q50 l s k hlt hq];exact⟨by omega,by omega,this.2.2⟩
   |false =>
    by_cases h2:l[k]=62
    ·rw[Q5K l s k hlt h2];simp;omega
    ·by_cases h3:l[k]=60/\s=true
     ·obtain⟨h3,rfl⟩:=h3
      rw[Q7e l k hlt h3];simp;omega
     ·have:=ih (k+1) (by omega) (by omega)
      rw[Q4k l s k hlt hq h2 h3];exact⟨by omega,by omega,this.2.2⟩
  ·rw[Q2l l s k hlt]
   simp;omega
theorem Qan(r:Int)(w:World):Calls prog 225 #[.int .i32 r] w fun e w'=>e=.returned (.bool (Q3k r))/\w=w':=by
 by_cases h:r=34
 ·subst h
  go_enter func225,ntmps225
  go_wp2
  go_ret
  exact⟨rfl,rfl⟩
 ·have hb:(r == 34)=false:=by simpa using h
  have HE:Hid (Q3k r=(r == 39)):=by rw[Hid,Q3k,hb,Bool.false_or]
  clear h;go_enter func225,ntmps225
  go_wp2
  go_ret
  exact⟨QR HE.out.symm,rfl⟩
theorem Qbn(S:Nat->Prop)(A:Option Addr)(n c:Nat)(l:List Int)(k:Nat)(w:World)(hr:Rd w S 1 A n c (rc l))(hk:k<l.length)(hl9:l.length<=1000000000) :
  Calls prog 226 #[.slice A n c,.int .i64 k] w fun e w'=>e=.returned (.tuple #[.int .i64 (Q1a l k).1,.bool (Q1a l k).2])/\Below w.heap.size w w':=by
 obtain rfl:=hr.rlen;have hle:=hr.le;have hmx:c<=9223372036854775807:=hr.max;have HR:=hid hr;have hki:(k:Int)<(l.length:Int):=by omega
 have HT:Hid (Q1a l k=Q2p l l[k] (k+1)):=by rw[Hid,Q1a,Q89 hk]
 have HQ:=fun W (h:Below w.heap.size w W)=>hid ((HR.out.below h).rune hk)
 clear hr;generalize Q1a l k=t at HT ⊢;generalize l[k]=q at HT HQ;go_enter func226,ntmps226
 go_wp2
 go_loopw [6] (fun i wr=>∃j:Nat,k+1<=j/\j<=l.length/\i=.int .i64 j/\Hid (t=Q2p l q j)/\Hid (Below w.heap.size w wr)) (fun i _=>l.length-(intOf i).toNat)
 case atStart=>exact⟨k+1,le_refl _,by omega,by go_num,HT.out,Below.refl _ _⟩
 case round =>
  obtain⟨j,hj1,hj2,rfl,HJ,HB⟩:=hrel;by_cases hlt:j<l.length
  ·have hji:(j:Int)<(l.length:Int):=by omega
   obtain⟨b,o,rfl,hc0⟩:=(HR.out.below HB.out).rune hlt;obtain⟨b',o',hA,hc1⟩:=(HQ _ HB.out).out;injection hA with hA
   injection hA with e1 e2
   subst e1 e2;have HH:=hid (Q6C l q j hlt);have HM:=hid (Q5Q l q j hlt);generalize l[j]=r at hc0 HH HM;by_cases hq:r=q
   ·have HE:=hid (HJ.out.trans (HH.out hq))
    have hb:(r == q)=true:=by simpa using hq
    clear HH HM HJ hq;go_wp2
    go_quiet (fail)
    go_wp2
    go_ret2
    rw[HE.out];exact⟨rfl,Q1F HB.out _⟩
   ·have HE:=hid (HJ.out.trans (HM.out hq))
    have hb:(r == q)=false:=by simpa using hq
    clear HH HM HJ hq;go_wp2
    go_quiet (fail)
    go_wp2
    go_roundw
    case rel=>exact⟨j+1,by omega,by omega,by go_num,HE.out,Q1F HB.out _⟩
    case measure=>simp[intOf];omega
  ·have hji:¬(j:Int)<(l.length:Int):=by omega
   have HE:=hid (HJ.out.trans (Q3L l q j hlt));clear HJ;go_wp2
   go_ret2
   rw[HE.out];exact⟨rfl,HB.out⟩
theorem Qcz(S:Nat->Prop)(A:Option Addr)(n c:Nat)(l:List Int)(k:Nat)(s:Bool)(w:World)(hr:Rd w S 1 A n c (rc l))(hk:k<=l.length)(hl9:l.length<=1000000000) :
  Calls prog 228 #[.slice A n c,.int .i64 k,.bool s] w fun e w'=>e=.returned (.tuple #[.int .i64 (QN l s k).1,.bool (QN l s k).2])/\Below w.heap.size w w':=by
 obtain rfl:=hr.rlen;have hle:=hr.le;have hmx:c<=9223372036854775807:=hr.max;have HR:=hid hr;clear hr;obtain⟨t,ht⟩:∃t,t=QN l s k:=⟨_,rfl⟩;rw[<-ht];have HT:=hid ht;clear ht;go_enter func228,ntmps228
 go_wp2
 go_loopw [1] (fun i wr=>∃j:Nat,j<=l.length/\i=.int .i64 j/\Hid (t=QN l s j)/\Hid (Below w.heap.size w wr)) (fun i _=>l.length-(intOf i).toNat)
 case atStart=>exact⟨k,hk,rfl,HT.out,Below.refl _ _⟩
 case round =>
  obtain⟨j,hj,rfl,HJ,HB⟩:=hrel;by_cases hlt:j<l.length
  ·have hji:(j:Int)<(l.length:Int):=by omega
   obtain⟨b,o,rfl,hc0⟩:=(HR.out.below HB.out).rune hlt;have HQT:=hid (Qan l[j]);have HQD:=hid (Qbn S _ l.length c l j _ (HR.out.below HB.out) hlt hl9);obtain⟨hg1,hg2⟩:=Q2C l j hlt;have H1:=hid (Q50 l s j hlt);have H2:=hid (Q5K l s j hlt);have H4:=hid (Q4k l s j hlt);have H3:=hid (show s=true->l[j]=60->QN l s j=(j,false) from fun h h2=>by subst h;exact Q7e l j hlt h2)
   generalize l[j]=r at hc0 HQT H1 H2 H3 H4;cases hq:Q3k r with
   |true =>
    have HE:=hid (HJ.out.trans (H1.out hq));have HQT2:=fun W=>hid (HQT.out W)
    rw[hq]at HQT2;clear H1 H2 H3 H4 HJ hq HQT;generalize (Q1a l j).1=nx at HE HQD hg1 hg2;generalize (Q1a l j).2=nb at HQD;go_wp2_with fail
    refine(HQT2 _).out.mono ?_;rintro e wx ⟨rfl,rfl⟩;go_wp2_with fail
    refine HQD.out.mono ?_;rintro e w2 ⟨rfl,hb2⟩;have HB2:=hid (HB.out.trans (hb2.mono HB.out.size));clear hb2;go_wp2
    go_roundw
    case rel=>exact⟨nx,by omega,rfl,HE.out,HB2.out⟩
    case measure=>simp[intOf];omega
   |false =>
    have HQT2:=fun W=>hid (HQT.out W)
    rw[hq]at HQT2;clear HQD hg1 hg2 HQT;by_cases h62:r=62
    ·have HE:=hid (HJ.out.trans (H2.out h62))
     subst h62;clear H1 H2 H3 H4 HJ hq;go_wp2_with fail
     refine(HQT2 _).out.mono ?_;rintro e wx ⟨rfl,rfl⟩;go_wp2
     go_ret2
     rw[HE.out];exact⟨rfl,HB.out⟩
    ·have h62b:(r == 62)=false:=by simpa using h62
     by_cases h60:r=60
     ·subst h60
      cases s with
      |true =>
       have HE:=hid (HJ.out.trans (H3.out rfl rfl));clear H1 H2 H3 H4 HJ hq h62;go_wp2_with fail
       refine(HQT2 _).out.mono ?_;rintro e wx ⟨rfl,rfl⟩;go_wp2
       go_ret2
       rw[HE.out];exact⟨rfl,HB.out⟩
      |false =>
       have HE:=hid (HJ.out.trans (H4.out hq h62 (by simp)))
       clear H1 H2 H3 H4 HJ hq h62;go_wp2_with fail
       refine(HQT2 _).out.mono ?_;rintro e wx ⟨rfl,rfl⟩;go_wp2
       go_roundw
       case rel=>exact⟨j+1,by omega,by go_num,HE.out,HB.out⟩
       case measure=>simp[intOf];omega
     ·have h60b:(r == 60)=false:=by simpa using h60
      have HE:=hid (HJ.out.trans (H4.out hq h62 (fun h=>h60 h.1)))
      clear H1 H2 H3 H4 HJ hq h62 h60;go_wp2_with fail
      refine(HQT2 _).out.mono ?_;rintro e wx ⟨rfl,rfl⟩;go_wp2
      go_roundw
      case rel=>exact⟨j+1,by omega,by go_num,HE.out,HB.out⟩
      case measure=>simp[intOf];omega
  ·have hji:¬(j:Int)<(l.length:Int):=by omega
   have HE:=hid (HJ.out.trans (Q2l l s j hlt));clear HJ;go_wp2
   go_ret2
   rw[HE.out];exact⟨rfl,HB.out⟩
def Q14(l:List Int)(kd k skip:Nat)(bs:List UInt8):Nat×Nat×Bool:=match Q3Z l (min (k+skip) l.length) l.length bs with
 |none=>(kd,l.length,false)
 |some j=>(kd,j+bs.length,true)
def Q2q(l:List Int)(k:Nat):Nat×Bool:=if h:k<l.length then(if l[k]=62 then(k+1,true)else if l[k]=60 then(k,false)else Q2q l (k+1))else(l.length,false)
termination_by l.length-k
def Q3h(l:List Int)(k:Nat):Nat×Nat×Bool:=(10,(Q2q l (k+2)).1,(Q2q l (k+2)).2)
def Q1D(l:List Int)(k:Nat):Nat×Nat×Bool :=
 if(QN l true (k+1)).2=false then(8,(QN l true (k+1)).1,false)
 else if l[(QN l true (k+1)).1-1]?=some 47 then(9,(QN l true (k+1)).1+1,true)else(8,(QN l true (k+1)).1+1,true)
theorem QeK(l:List Int)(k:Nat)(h:k<l.length)(hq:l[k]=62):Q2q l k=(k+1,true):=by rw[Q2q,dif_pos h,if_pos hq]
theorem QdM(l:List Int)(k:Nat)(h:k<l.length)(hq:l[k]=60):Q2q l k=(k,false):=by rw[Q2q,dif_pos h,if_neg (by rw[hq];decide),if_pos hq]
theorem Q9L(l:List Int)(k:Nat)(h:k<l.length)(h1:l[k]≠62)(h2:l[k]≠60):Q2q l k=Q2q l (k+1):=by rw[Q2q,dif_pos h,if_neg h1,if_neg h2]
theorem Q8F(l:List Int)(k:Nat)(h:¬k<l.length):Q2q l k=(l.length,false):=by rw[Q2q,dif_neg h]
theorem Q6D(S:Nat->Prop)(A:Option Addr)(n c:Nat)(l:List Int)(kd k skip:Nat)(s:ByteArray)(w:World)(hr:Rd w S 1 A n c (rc l))(hk:k<=l.length)(hsk:skip<=1000)(hl9:l.length<=1000000000)(hs9:s.size<=1000) :
  Calls prog 207 #[.slice A n c,.int .i64 kd,.int .i64 k,.int .i64 skip,.string s] w fun e w'=>e=.returned (Q25 (Q14 l kd k skip s.data.toList) k)/\Below w.heap.size w w':=by
 obtain rfl:=hr.rlen;have hle:=hr.le;have hmx:c<=9223372036854775807:=hr.max;have HR:=hid hr;clear hr
 have hm:∀ts t W,(Builtin.min_ ts t #[.int .i64 ((k:Int)+(skip:Int)),.int .i64 (l.length:Int)]).run prog W=.ok (.int .i64 (min (k+skip) l.length:Nat)) W:=fun ts t W=>by
  rw[run_min_int2];congr 2
  split<;>omega
 have HF:=fun W (h:Below w.heap.size w W)=>hid (QhG S A l.length c l (min (k+skip) l.length) l.length s W (HR.out.below h) (by omega) (le_refl _) hl9 (by omega))
 have HT:Hid (Q14 l kd k skip s.data.toList=match Q3Z l (min (k+skip) l.length) l.length s.data.toList with
  |none=>(kd,l.length,false)
  |some j=>(kd,j+s.data.toList.length,true)):=rfl
 have hfl:∀j,Q3Z l (min (k+skip) l.length) l.length s.data.toList=some j->j<=l.length:=fun j h=>by
  rw[Q3Z,List.find?_range'_eq_some]at h;have:=List.mem_range'_1.1 h.2.1
  omega
 have HSL:=hid (show s.data.toList.length=s.size by simp)
 generalize Q14 l kd k skip s.data.toList=t at HT ⊢;generalize Q3Z l (min (k+skip) l.length) l.length s.data.toList=q at HF HT hfl;generalize min (k+skip) l.length=m2 at hm HF;cases q with
 |none =>
  have HE:Hid (t=(kd,l.length,false)):=HT.out;clear HT hfl;go_enter func207,ntmps207
  go_wp2_with fail
  have HTH0:=hid (Q2K w #[.int .i64 0,.int .i64 0,.int .i64 0,.bool false] 185);have HB0:=hid (ba w (.cells #[.int .i64 0,.int .i64 0,.int .i64 0,.bool false] 185));have HSZ:Hid (w.heap.size<(w.alloc (.cells #[.int .i64 0,.int .i64 0,.int .i64 0,.bool false] 185)).heap.size):=by simp[Hid]
  generalize w.alloc (.cells #[.int .i64 0,.int .i64 0,.int .i64 0,.bool false] 185)=W0 at HTH0 HB0 HSZ;refine(HF _ HB0.out).out.mono ?_;rintro e w1 ⟨rfl,hb1⟩;have HB1:=hid (HB0.out.trans (hb1.mono HB0.out.size));have HTH1:Hid (w1.there w.heap.size 0 4):=QK HTH0.out hb1 HSZ.out;clear hb1 HTH0 HSZ;have HL9:=hid (QF (P:=prog) (T:=185) w1 w.heap.size [.int .i64 kd,.int .i64 k,.int .i64 (l.length),.bool false] HTH1.out (by kernel_rfl) underlying185 rfl)
  have HB9:=hid (Qf HB1.out w.heap.size (le_refl _) [.int .i64 kd,.int .i64 k,.int .i64 (l.length),.bool false] 0);obtain⟨⟨z0,hz0⟩,hf0⟩:=Q7 HTH1.out 0 (by decide)
  obtain⟨⟨z1,hz1⟩,hf1⟩:=Q7 HTH1.out 1 (by decide)
  obtain⟨⟨z2,hz2⟩,hf2⟩:=Q7 HTH1.out 2 (by decide)
  obtain⟨⟨z3,hz3⟩,hf3⟩:=Q7 HTH1.out 3 (by decide)
  go_wp2
  refine bodyPost_ret (Qw rfl _ rfl HL9.out) rfl ?_;rw[HE.out];exact⟨by simp[Q25],HB9.out⟩
 |some j =>
  have HE:Hid (t=(kd,j+s.size,true)):=by rw[Hid,<-HSL.out];exact HT.out
  have hfl:=hfl j rfl;clear HT;go_enter func207,ntmps207
  go_wp2_with fail
  have HTH0:=hid (Q2K w #[.int .i64 0,.int .i64 0,.int .i64 0,.bool false] 185);have HB0:=hid (ba w (.cells #[.int .i64 0,.int .i64 0,.int .i64 0,.bool false] 185));have HSZ:Hid (w.heap.size<(w.alloc (.cells #[.int .i64 0,.int .i64 0,.int .i64 0,.bool false] 185)).heap.size):=by simp[Hid]
  generalize w.alloc (.cells #[.int .i64 0,.int .i64 0,.int .i64 0,.bool false] 185)=W0 at HTH0 HB0 HSZ;refine(HF _ HB0.out).out.mono ?_;rintro e w1 ⟨rfl,hb1⟩;have HB1:=hid (HB0.out.trans (hb1.mono HB0.out.size));have HTH1:Hid (w1.there w.heap.size 0 4):=QK HTH0.out hb1 HSZ.out;clear hb1 HTH0 HSZ;have HL9:=hid (QF (P:=prog) (T:=185) w1 w.heap.size [.int .i64 kd,.int .i64 k,.int .i64 ((j:Int)+(s.size:Int)),.bool true] HTH1.out (by kernel_rfl) underlying185 rfl)
  have HB9:=hid (Qf HB1.out w.heap.size (le_refl _) [.int .i64 kd,.int .i64 k,.int .i64 ((j:Int)+(s.size:Int)),.bool true] 0);obtain⟨⟨z0,hz0⟩,hf0⟩:=Q7 HTH1.out 0 (by decide)
  obtain⟨⟨z1,hz1⟩,hf1⟩:=Q7 HTH1.out 1 (by decide)
  obtain⟨⟨z2,hz2⟩,hf2⟩:=Q7 HTH1.out 2 (by decide)
  obtain⟨⟨z3,hz3⟩,hf3⟩:=Q7 HTH1.out 3 (by decide)
  go_wp2
  refine bodyPost_ret (Qw rfl _ rfl HL9.out) rfl ?_;rw[HE.out];exact⟨by simp[Q25],HB9.out⟩
theorem Qkk(S:Nat->Prop)(A:Option Addr)(n c:Nat)(l:List Int)(k:Nat)(w:World)(hr:Rd w S 1 A n c (rc l))(hk:k+2<=l.length)(hl9:l.length<=1000000000) :
  Calls prog 209 #[.slice A n c,.int .i64 k] w fun e w'=>e=.returned (Q25 (Q3h l k) k)/\Below w.heap.size w w':=by
 obtain rfl:=hr.rlen;have hle:=hr.le;have hmx:c<=9223372036854775807:=hr.max;have HR:=hid hr;clear hr;obtain⟨t,ht⟩:∃t,t=Q2q l (k+2):=⟨_,rfl⟩;have HT:=hid ht;have HTT:Hid (Q3h l k=(10,t.1,t.2)):=by rw[Hid,ht];rfl
 clear ht;go_enter func209,ntmps209
 go_wp2
 have HTH0:=hid (Q2K w #[.int .i64 0,.int .i64 0,.int .i64 0,.bool false] 185);have HB0:=hid (ba w (.cells #[.int .i64 0,.int .i64 0,.int .i64 0,.bool false] 185));have HSZ:Hid (w.heap.size<(w.alloc (.cells #[.int .i64 0,.int .i64 0,.int .i64 0,.bool false] 185)).heap.size):=by simp[Hid]
 generalize w.alloc (.cells #[.int .i64 0,.int .i64 0,.int .i64 0,.bool false] 185)=W0 at HTH0 HB0 HSZ;have HR0:=hid (HR.out.below HB0.out);have HTH0:Hid (W0.there w.heap.size 0 4):=HTH0.out;go_loopw [5] (fun i wr=>wr=W0/\∃j:Nat,k+2<=j/\j<=l.length/\i=.int .i64 j/\Hid (t=Q2q l j)) (fun i _=>l.length-(intOf i).toNat)
 case atStart=>exact⟨rfl,k+2,le_refl _,by omega,by go_num,HT.out⟩
 case round =>
  obtain⟨rfl,j,hj1,hj2,rfl,HJ⟩:=hrel;by_cases hlt:j<l.length
  ·have hji:(j:Int)<(l.length:Int):=by omega
   obtain⟨b,o,rfl,hc0⟩:=HR0.out.rune hlt;have H1:=hid (QeK l j hlt);have H2:=hid (QdM l j hlt);have H3:=hid (Q9L l j hlt);generalize l[j]=r at hc0 H1 H2 H3;by_cases h62:r=62
   ·have HE:Hid (Q3h l k=(10,j+1,true)):=by rw[Hid,HTT.out,HJ.out.trans (H1.out h62)]
    subst h62;clear H1 H2 H3 HJ HTT;have HL9:=hid (QF (P:=prog) (T:=185) wr w.heap.size [.int .i64 10,.int .i64 k,.int .i64 ((j:Int)+1),.bool true] HTH0.out (by kernel_rfl) underlying185 rfl)
    have HB9:=hid (Qf HB0.out w.heap.size (le_refl _) [.int .i64 10,.int .i64 k,.int .i64 ((j:Int)+1),.bool true] 0);obtain⟨⟨z0,hz0⟩,hf0⟩:=Q7 HTH0.out 0 (by decide)
    obtain⟨⟨z1,hz1⟩,hf1⟩:=Q7 HTH0.out 1 (by decide)
    obtain⟨⟨z2,hz2⟩,hf2⟩:=Q7 HTH0.out 2 (by decide)
    obtain⟨⟨z3,hz3⟩,hf3⟩:=Q7 HTH0.out 3 (by decide)
    go_wp2
    refine bodyPost_ret (Qw rfl _ rfl HL9.out) rfl ?_;rw[HE.out];exact⟨by simp[Q25],HB9.out⟩
   ·have h62b:(r == 62)=false:=by simpa using h62
    by_cases h60:r=60
    ·have HE:Hid (Q3h l k=(10,j,false)):=by rw[Hid,HTT.out,HJ.out.trans (H2.out h60)]
     subst h60;clear H1 H2 H3 HJ HTT h62;have HL9:=hid (QF (P:=prog) (T:=185) wr w.heap.size [.int .i64 10,.int .i64 k,.int .i64 (j),.bool false] HTH0.out (by kernel_rfl) underlying185 rfl)
     have HB9:=hid (Qf HB0.out w.heap.size (le_refl _) [.int .i64 10,.int .i64 k,.int .i64 (j),.bool false] 0);obtain⟨⟨z0,hz0⟩,hf0⟩:=Q7 HTH0.out 0 (by decide)
     obtain⟨⟨z1,hz1⟩,hf1⟩:=Q7 HTH0.out 1 (by decide)
     obtain⟨⟨z2,hz2⟩,hf2⟩:=Q7 HTH0.out 2 (by decide)
     obtain⟨⟨z3,hz3⟩,hf3⟩:=Q7 HTH0.out 3 (by decide)
     go_wp2
     refine bodyPost_ret (Qw rfl _ rfl HL9.out) rfl ?_;rw[HE.out];exact⟨by simp[Q25],HB9.out⟩
    ·have h60b:(r == 60)=false:=by simpa using h60
     have HN:=hid (HJ.out.trans (H3.out h62 h60));clear H1 H2 H3 HJ h62 h60;go_wp2
     go_roundw
     case rel=>exact⟨trivial,j+1,by omega,by omega,by go_num,HN.out⟩
     case measure=>simp[intOf];omega
  ·have hji:¬(j:Int)<(l.length:Int):=by omega
   have HE:Hid (Q3h l k=(10,l.length,false)):=by rw[Hid,HTT.out,HJ.out.trans (Q8F l j hlt)]
   clear HJ HTT;have HL9:=hid (QF (P:=prog) (T:=185) wr w.heap.size [.int .i64 10,.int .i64 k,.int .i64 (l.length),.bool false] HTH0.out (by kernel_rfl) underlying185 rfl)
   have HB9:=hid (Qf HB0.out w.heap.size (le_refl _) [.int .i64 10,.int .i64 k,.int .i64 (l.length),.bool false] 0);obtain⟨⟨z0,hz0⟩,hf0⟩:=Q7 HTH0.out 0 (by decide)
   obtain⟨⟨z1,hz1⟩,hf1⟩:=Q7 HTH0.out 1 (by decide)
   obtain⟨⟨z2,hz2⟩,hf2⟩:=Q7 HTH0.out 2 (by decide)
   obtain⟨⟨z3,hz3⟩,hf3⟩:=Q7 HTH0.out 3 (by decide)
   go_wp2
   refine bodyPost_ret (Qw rfl _ rfl HL9.out) rfl ?_;rw[HE.out];exact⟨by simp[Q25],HB9.out⟩
theorem QfL(S:Nat->Prop)(A:Option Addr)(n c:Nat)(l:List Int)(k:Nat)(w:World)(hr:Rd w S 1 A n c (rc l))(hk:k<l.length)(hl9:l.length<=1000000000) :
  Calls prog 210 #[.slice A n c,.int .i64 k] w fun e w'=>e=.returned (Q25 (Q1D l k) k)/\Below w.heap.size w w':=by
 obtain rfl:=hr.rlen;have hle:=hr.le;have hmx:c<=9223372036854775807:=hr.max;have HR:=hid hr
 have HAN:∀W,Below w.heap.size w W->Hid (Calls prog 228 #[.slice A l.length c,.int .i64 ((k:Int)+1),.bool true] W fun e w'=>e=.returned (.tuple #[.int .i64 (QN l true (k+1)).1,.bool (QN l true (k+1)).2])/\Below W.heap.size W w'):=fun W h=>by
  rw[show((k:Int)+1)=((k+1:Nat):Int) by omega]
  exact Qcz S A l.length c l (k+1) true W (HR.out.below h) (by omega) hl9
 obtain⟨ha1,ha2,ha3⟩:=Q38 l true l.length (k+1) (by omega) (by omega)
 have HT:Hid (Q1D l k=if(QN l true (k+1)).2=false then(8,(QN l true (k+1)).1,false)
  else if l[(QN l true (k+1)).1-1]?=some 47 then(9,(QN l true (k+1)).1+1,true)else(8,(QN l true (k+1)).1+1,true)):=rfl
 clear hr;generalize (QN l true (k+1)).1=j at HAN HT ha1 ha2 ha3;generalize (QN l true (k+1)).2=b at HAN HT ha3;go_enter func210,ntmps210
 go_wp2_with fail
 have HTH0:=hid (Q2K w #[.int .i64 0,.int .i64 0,.int .i64 0,.bool false] 185);have HB0:=hid (ba w (.cells #[.int .i64 0,.int .i64 0,.int .i64 0,.bool false] 185));have HSZ:Hid (w.heap.size<(w.alloc (.cells #[.int .i64 0,.int .i64 0,.int .i64 0,.bool false] 185)).heap.size):=by simp[Hid]
 generalize w.alloc (.cells #[.int .i64 0,.int .i64 0,.int .i64 0,.bool false] 185)=W0 at HTH0 HB0 HSZ;refine(HAN _ HB0.out).out.mono ?_;rintro e w1 ⟨rfl,hb1⟩;have HB1:=hid (HB0.out.trans (hb1.mono HB0.out.size));have HTH1:Hid (w1.there w.heap.size 0 4):=QK HTH0.out hb1 HSZ.out;clear hb1 HTH0 HSZ HB0 HAN;cases b with
 |false =>
  have HE:Hid (Q1D l k=(8,j,false)):=HT.out;clear HT ha3;have HL9:=hid (QF (P:=prog) (T:=185) w1 w.heap.size [.int .i64 8,.int .i64 k,.int .i64 (j),.bool false] HTH1.out (by kernel_rfl) underlying185 rfl)
  have HB9:=hid (Qf HB1.out w.heap.size (le_refl _) [.int .i64 8,.int .i64 k,.int .i64 (j),.bool false] 0);obtain⟨⟨z0,hz0⟩,hf0⟩:=Q7 HTH1.out 0 (by decide)
  obtain⟨⟨z1,hz1⟩,hf1⟩:=Q7 HTH1.out 1 (by decide)
  obtain⟨⟨z2,hz2⟩,hf2⟩:=Q7 HTH1.out 2 (by decide)
  obtain⟨⟨z3,hz3⟩,hf3⟩:=Q7 HTH1.out 3 (by decide)
  go_wp2
  refine bodyPost_ret (Qw rfl _ rfl HL9.out) rfl ?_;rw[HE.out];exact⟨by simp[Q25],HB9.out⟩
 |true =>
  have ha3:=ha3 rfl;have hj1:j-1<l.length:=by omega
  have hj1i:(j:Int)-1<(l.length:Int):=by omega
  have hj0i:(0:Int)<=(j:Int)-1:=by omega
  obtain⟨b,o,rfl,hc0⟩:=(HR.out.below HB1.out).rune hj1
  have HT2:Hid (Q1D l k=if l[j-1]=47 then(9,j+1,true)else(8,j+1,true)):=by
   rw[Hid,HT.out,if_neg (by simp),List.getElem?_eq_getElem hj1]
   simp only[Option.some.injEq]
  generalize l[j-1]=r at hc0 HT2;clear HT;by_cases h47:r=47
  ·have HE:Hid (Q1D l k=(9,j+1,true)):=by rw[Hid,HT2.out,if_pos h47]
   subst h47;clear HT2;have HL9:=hid (QF (P:=prog) (T:=185) w1 w.heap.size [.int .i64 9,.int .i64 k,.int .i64 ((j:Int)+1),.bool true] HTH1.out (by kernel_rfl) underlying185 rfl)
   have HB9:=hid (Qf HB1.out w.heap.size (le_refl _) [.int .i64 9,.int .i64 k,.int .i64 ((j:Int)+1),.bool true] 0);obtain⟨⟨z0,hz0⟩,hf0⟩:=Q7 HTH1.out 0 (by decide)
   obtain⟨⟨z1,hz1⟩,hf1⟩:=Q7 HTH1.out 1 (by decide)
   obtain⟨⟨z2,hz2⟩,hf2⟩:=Q7 HTH1.out 2 (by decide)
   obtain⟨⟨z3,hz3⟩,hf3⟩:=Q7 HTH1.out 3 (by decide)
   go_wp2
   refine bodyPost_ret (Qw rfl _ rfl HL9.out) rfl ?_;rw[HE.out];exact⟨by simp[Q25],HB9.out⟩
  ·have HE:Hid (Q1D l k=(8,j+1,true)):=by rw[Hid,HT2.out,if_neg h47]
   have h47b:(r == 47)=false:=by simpa using h47
   clear HT2 h47;have HL9:=hid (QF (P:=prog) (T:=185) w1 w.heap.size [.int .i64 8,.int .i64 k,.int .i64 ((j:Int)+1),.bool true] HTH1.out (by kernel_rfl) underlying185 rfl)
   have HB9:=hid (Qf HB1.out w.heap.size (le_refl _) [.int .i64 8,.int .i64 k,.int .i64 ((j:Int)+1),.bool true] 0);obtain⟨⟨z0,hz0⟩,hf0⟩:=Q7 HTH1.out 0 (by decide)
   obtain⟨⟨z1,hz1⟩,hf1⟩:=Q7 HTH1.out 1 (by decide)
   obtain⟨⟨z2,hz2⟩,hf2⟩:=Q7 HTH1.out 2 (by decide)
   obtain⟨⟨z3,hz3⟩,hf3⟩:=Q7 HTH1.out 3 (by decide)
   go_wp2
   refine bodyPost_ret (Qw rfl _ rfl HL9.out) rfl ?_;rw[HE.out];exact⟨by simp[Q25],HB9.out⟩
theorem Qek(l:List Int)(k t:Nat)(bs:List UInt8)(j:Nat)(h:Q3Z l k t bs=some j):k<=j/\j<t+1-bs.length:=by
 rw[Q3Z,List.find?_range'_eq_some]at h;have:=List.mem_range'_1.1 h.2.1
 omega
theorem Q4m(l:List Int)(kd k skip:Nat)(bs:List UInt8)(hk:k<l.length)(hb:0<bs.length):k<(Q14 l kd k skip bs).2.1/\(Q14 l kd k skip bs).2.1<=l.length:=by
 unfold Q14;cases h:Q3Z l (min (k+skip) l.length) l.length bs with
 |none=>simp only;omega
 |some j =>
  have:=Qek l _ _ bs j h
  simp only;omega
def Q3D(l:List Int)(k:Nat):Nat×Bool :=
 if Q6 l k [60,33,45,45]=true then((Q14 l 4 k 4 [45,45,62]).2.1,(Q14 l 4 k 4 [45,45,62]).2.2)
 else if Q6 l k [60,63]=true then((Q14 l 5 k 2 [63,62]).2.1,(Q14 l 5 k 2 [63,62]).2.2)
 else if l.getD k 0=60 then(min ((QN l false k).1+1) l.length,(QN l false k).2)
 else(k+1,true)
theorem Q5i(l:List Int)(k:Nat)(hk:k<l.length):k<(Q3D l k).1/\(Q3D l k).1<=l.length:=by
 unfold Q3D;split
 ·exact Q4m l 4 k 4 _ hk (by decide)
 ·split
  ·exact Q4m l 5 k 2 _ hk (by decide)
  ·split
   ·have:=Q38 l false l.length k (by omega) (by omega)
    simp only;omega
   ·simp only;omega
def Q3M(l:List Int)(k:Nat)(ok:Bool):Nat×Bool :=
 if h:k<l.length/\ok=true then(if l[k]'h.1=93 then(k+1,true)else Q3M l (Q3D l k).1 (Q3D l k).2)else(l.length,false)
termination_by l.length-k
decreasing_by
 have:=Q5i l k h.1;omega
theorem Q8Z(l:List Int)(k:Nat)(h:k<l.length)(hq:l[k]=93):Q3M l k true=(k+1,true):=by rw[Q3M,dif_pos ⟨h,rfl⟩,if_pos hq]
theorem Q7V(l:List Int)(k:Nat)(h:k<l.length)(hq:l[k]≠93):Q3M l k true=Q3M l (Q3D l k).1 (Q3D l k).2:=by
 conv=>lhs;rw[Q3M]
 rw[dif_pos ⟨h,rfl⟩,if_neg hq]
theorem Q4I(l:List Int)(k:Nat)(ok:Bool)(h:¬(k<l.length/\ok=true)):Q3M l k ok=(l.length,false):=by rw[Q3M,dif_neg h]
theorem QeU(l:List Int):∀(n k:Nat)(ok:Bool),l.length-k<=n->k<=l.length->(k<(Q3M l k ok).1\/(Q3M l k ok).1=l.length)/\(Q3M l k ok).1<=l.length:=by
 intro n;induction n with
 |zero =>
  intro k ok h hk;rw[Q4I l k ok (by omega)]
  simp
 |succ n ih =>
  intro k ok h hk;by_cases hlt:k<l.length/\ok=true
  ·obtain⟨hlt,rfl⟩:=hlt
   by_cases hq:l[k]=93
   ·rw[Q8Z l k hlt hq];simp only;omega
   ·have:=Q5i l k hlt
    have:=ih (Q3D l k).1 (Q3D l k).2 (by omega) (by omega)
    rw[Q7V l k hlt hq];omega
  ·rw[Q4I l k ok hlt];simp
def Q7A(l:List Int)(k:Nat):Nat×Bool:=Q3M l (k+1) true
theorem Qd3(S:Nat->Prop)(A:Option Addr)(n c:Nat)(l:List Int)(k:Nat)(w:World)(hr:Rd w S 1 A n c (rc l))(hk:k<l.length)(hl9:l.length<=1000000000) :
  Calls prog 234 #[.slice A n c,.int .i64 k] w fun e w'=>e=.returned (.tuple #[.int .i64 (Q3D l k).1,.bool (Q3D l k).2])/\Below w.heap.size w w':=by
 obtain rfl:=hr.rlen;have hle:=hr.le;have hmx:c<=9223372036854775807:=hr.max;have HR:=hid hr
 have HS1:∀W,Below w.heap.size w W->Hid (Calls prog 185 #[.slice A l.length c,.int .i64 k,.string ⟨#[60,33,45,45]⟩] W fun e w'=>e=.returned (.bool (Q6 l k [60,33,45,45]))/\Below W.heap.size W w') :=
  fun W h=>Q24 S A l.length c l k ⟨#[60,33,45,45]⟩ W (HR.out.below h) (by omega) hl9 (by decide)
 have HS2:∀W,Below w.heap.size w W->Hid (Calls prog 185 #[.slice A l.length c,.int .i64 k,.string ⟨#[60,63]⟩] W fun e w'=>e=.returned (.bool (Q6 l k [60,63]))/\Below W.heap.size W w') :=
  fun W h=>Q24 S A l.length c l k ⟨#[60,63]⟩ W (HR.out.below h) (by omega) hl9 (by decide)
 have HU1:∀W,Below w.heap.size w W->Hid (Calls prog 207 #[.slice A l.length c,.int .i64 4,.int .i64 k,.int .i64 4,.string ⟨#[45,45,62]⟩] W fun e w'=>e=.returned (Q25 (Q14 l 4 k 4 [45,45,62]) k)/\Below W.heap.size W w') :=
  fun W h=>Q6D S A l.length c l 4 k 4 ⟨#[45,45,62]⟩ W (HR.out.below h) (by omega) (by decide) hl9 (by decide)
 have HU2:∀W,Below w.heap.size w W->Hid (Calls prog 207 #[.slice A l.length c,.int .i64 5,.int .i64 k,.int .i64 2,.string ⟨#[63,62]⟩] W fun e w'=>e=.returned (Q25 (Q14 l 5 k 2 [63,62]) k)/\Below W.heap.size W w') :=
  fun W h=>Q6D S A l.length c l 5 k 2 ⟨#[63,62]⟩ W (HR.out.below h) (by omega) (by decide) hl9 (by decide)
 have HAN:=fun W (h:Below w.heap.size w W)=>hid (Qcz S A l.length c l k false W (HR.out.below h) (by omega) hl9)
 obtain⟨ha1,ha2,_⟩:=Q38 l false l.length k (by omega) (by omega)
 have HT:Hid (Q3D l k=if Q6 l k [60,33,45,45]=true then((Q14 l 4 k 4 [45,45,62]).2.1,(Q14 l 4 k 4 [45,45,62]).2.2)
  else if Q6 l k [60,63]=true then((Q14 l 5 k 2 [63,62]).2.1,(Q14 l 5 k 2 [63,62]).2.2)
  else if l[k]=60 then(min ((QN l false k).1+1) l.length,(QN l false k).2)else(k+1,true)):=by rw[Hid,Q3D,Q89 hk]
 have HCK:=fun W (h:Below w.heap.size w W)=>hid ((HR.out.below h).rune hk)
 clear hr;have hki:(k:Int)<(l.length:Int):=by omega
 generalize Q3D l k=t at HT ⊢;generalize Q6 l k [60,33,45,45]=s1 at HS1 HT;generalize Q6 l k [60,63]=s2 at HS2 HT;generalize Q14 l 4 k 4 [45,45,62]=u1 at HU1 HT;generalize Q14 l 5 k 2 [63,62]=u2 at HU2 HT;generalize (QN l false k).1=aj at HAN HT ha1 ha2;generalize (QN l false k).2=ab at HAN HT;generalize l[k]=r at HCK HT;obtain⟨k1,t1,w1b⟩:=u1;obtain⟨k2,t2,w2b⟩:=u2;have HU1:∀W,Below w.heap.size w W->Hid (Calls prog 207 #[.slice A l.length c,.int .i64 4,.int .i64 k,.int .i64 4,.string ⟨#[45,45,62]⟩] W fun e w'=>e=.returned (.agg #[.int .i64 k1,.int .i64 k,.int .i64 t1,.bool w1b])/\Below W.heap.size W w'):=HU1
 have HU2:∀W,Below w.heap.size w W->Hid (Calls prog 207 #[.slice A l.length c,.int .i64 5,.int .i64 k,.int .i64 2,.string ⟨#[63,62]⟩] W fun e w'=>e=.returned (.agg #[.int .i64 k2,.int .i64 k,.int .i64 t2,.bool w2b])/\Below W.heap.size W w'):=HU2
 have hm:∀ts t W,(Builtin.min_ ts t #[.int .i64 ((aj:Int)+1),.int .i64 (l.length:Int)]).run prog W=.ok (.int .i64 (min (aj+1) l.length:Nat)) W:=fun ts t W=>by
  rw[run_min_int2];congr 2
  split<;>omega
 go_enter func234,ntmps234
 go_wp2_with fail
 refine(HS1 _ (Below.refl _ _)).out.mono ?_;rintro e v1 ⟨rfl,hb1⟩;have HB1:=hid hb1;clear hb1 HS1;cases s1 with
 |true =>
  have HE:Hid (t=(t1,w1b)):=HT.out;clear HT;go_wp2_with fail
  refine(HU1 _ HB1.out).out.mono ?_;rintro e v2 ⟨rfl,hb2⟩;have HB2:=hid (bt HB1.out hb2);clear hb2;go_wp2
  go_quiet (fail)
  go_wp2
  go_ret2
  rw[HE.out];exact⟨rfl,Q1F (bt HB2.out (ba _ _)) _⟩
 |false =>
  go_wp2_with fail
  refine(HS2 _ HB1.out).out.mono ?_;rintro e v2 ⟨rfl,hb2⟩;have HB2:=hid (bt HB1.out hb2);clear hb2;cases s2 with
  |true =>
   have HE:Hid (t=(t2,w2b)):=HT.out;clear HT;go_wp2_with fail
   refine(HU2 _ HB2.out).out.mono ?_;rintro e v3 ⟨rfl,hb3⟩;have HB3:=hid (bt HB2.out hb3);clear hb3;go_wp2
   go_quiet (fail)
   go_wp2
   go_ret2
   rw[HE.out];exact⟨rfl,Q1F (bt HB3.out (ba _ _)) _⟩
  |false =>
   obtain⟨b,o,rfl,hc0⟩:=(HCK _ HB2.out).out;by_cases h60:r=60
   ·have HE:Hid (t=(min (aj+1) l.length,ab)):=by rw[Hid,HT.out];simp[h60]
    subst h60;clear HT HCK;generalize min (aj+1) l.length=m2 at hm HE;go_wp2_with fail
    refine(HAN _ HB2.out).out.mono ?_;rintro e v3 ⟨rfl,hb3⟩;have HB3:=hid (bt HB2.out hb3);clear hb3;go_wp2
    go_ret2
    rw[HE.out];exact⟨rfl,HB3.out⟩
   ·have HE:Hid (t=(k+1,true)):=by rw[Hid,HT.out];simp[h60]
    have h60b:(r == 60)=false:=by simpa using h60
    clear HT HCK h60;go_wp2
    go_ret2
    rw[HE.out];exact⟨by simp,HB2.out⟩
theorem Qfy(S:Nat->Prop)(A:Option Addr)(n c:Nat)(l:List Int)(k:Nat)(w:World)(hr:Rd w S 1 A n c (rc l))(hk:k<l.length)(hl9:l.length<=1000000000) :
  Calls prog 227 #[.slice A n c,.int .i64 k] w fun e w'=>e=.returned (.tuple #[.int .i64 (Q7A l k).1,.bool (Q7A l k).2])/\Below w.heap.size w w':=by
 obtain rfl:=hr.rlen;have hle:=hr.le;have hmx:c<=9223372036854775807:=hr.max;have HR:=hid hr;clear hr;have HT:Hid (Q7A l k=Q3M l (k+1) true):=rfl;generalize Q7A l k=t at HT ⊢;go_enter func227,ntmps227
 go_wp2
 go_loopw [1,6] (fun i o wr=>∃(j:Nat) (ok:Bool),j<=l.length/\i=.int .i64 j/\o=.bool ok/\Hid (t=Q3M l j ok)/\Hid (Below w.heap.size w wr)) (fun i _ _=>l.length-(intOf i).toNat)
 case atStart=>exact⟨k+1,true,by omega,by go_num,rfl,HT.out,Below.refl _ _⟩
 case round =>
  obtain⟨j,ok,hj,rfl,rfl,HJ,HB⟩:=hrel;by_cases hlt:j<l.length
  ·have hji:(j:Int)<(l.length:Int):=by omega
   cases ok with
   |true =>
    obtain⟨b,o,rfl,hc0⟩:=(HR.out.below HB.out).rune hlt;have H1:=hid (Q8Z l j hlt);have H2:=hid (Q7V l j hlt);have HDC:=hid (Qd3 S _ l.length c l j _ (HR.out.below HB.out) hlt hl9);obtain⟨hd1,hd2⟩:=Q5i l j hlt;generalize l[j]=r at hc0 H1 H2;generalize (Q3D l j).1=dj at H2 HDC hd1 hd2;generalize (Q3D l j).2=db at H2 HDC;by_cases h93:r=93
    ·have HE:=hid (HJ.out.trans (H1.out h93))
     subst h93;clear H1 H2 HJ HDC;go_wp2
     go_ret2
     rw[HE.out];exact⟨by simp,HB.out⟩
    ·have HE:=hid (HJ.out.trans (H2.out h93))
     have h93b:(r == 93)=false:=by simpa using h93
     clear H1 H2 HJ h93;go_wp2_with fail
     refine HDC.out.mono ?_;rintro e v2 ⟨rfl,hb2⟩;have HB2:=hid (HB.out.trans (hb2.mono HB.out.size));clear hb2;go_wp2
     go_roundw
     case rel=>exact⟨dj,db,by omega,rfl,rfl,HE.out,HB2.out⟩
     case measure=>simp[intOf];omega
   |false =>
    have HE:=hid (HJ.out.trans (Q4I l j false (by simp)))
    clear HJ;go_wp2
    go_ret2
    rw[HE.out];exact⟨rfl,HB.out⟩
  ·have hji:¬(j:Int)<(l.length:Int):=by omega
   have HE:=hid (HJ.out.trans (Q4I l j ok (fun h=>hlt h.1)))
   clear HJ;go_wp2
   go_ret2
   rw[HE.out];exact⟨rfl,HB.out⟩
theorem Q7D(l:List Int)(k:Nat)(hk:k<l.length):k<(Q7A l k).1/\(Q7A l k).1<=l.length:=by
 have:=QeU l l.length (k+1) true (by omega) (by omega)
 unfold Q7A;omega
def Q2v(l:List Int)(k:Nat)(ok:Bool):Nat×Bool :=
 if h:k<l.length/\ok=true then
  (if l[k]'h.1=62 then(k+1,true)else if Q3k (l[k]'h.1)then Q2v l (Q1a l k).1 (Q1a l k).2 else if l[k]'h.1=91 then Q2v l (Q7A l k).1 (Q7A l k).2 else Q2v l (k+1) true)
 else(l.length,false)
termination_by l.length-k
decreasing_by
 ·have:=Q2C l k h.1;omega
 ·have:=Q7D l k h.1;omega
 ·omega
theorem Q4J(l:List Int)(k:Nat)(ok:Bool)(h:¬(k<l.length/\ok=true)):Q2v l k ok=(l.length,false):=by rw[Q2v,dif_neg h]
theorem Q8Q(l:List Int)(k:Nat)(h:k<l.length)(hq:l[k]=62):Q2v l k true=(k+1,true):=by rw[Q2v,dif_pos ⟨h,rfl⟩,if_pos hq]
theorem Q8V(l:List Int)(k:Nat)(h:k<l.length)(h1:l[k]≠62)(hq:Q3k l[k]=true):Q2v l k true=Q2v l (Q1a l k).1 (Q1a l k).2:=by
 conv=>lhs;rw[Q2v]
 rw[dif_pos ⟨h,rfl⟩,if_neg h1,if_pos hq]
theorem Q93(l:List Int)(k:Nat)(h:k<l.length)(hq:l[k]=91):Q2v l k true=Q2v l (Q7A l k).1 (Q7A l k).2:=by
 conv=>lhs;rw[Q2v]
 rw[dif_pos ⟨h,rfl⟩,if_neg (by rw[hq];decide),if_neg (by rw[hq];decide),if_pos hq]
theorem Q7X(l:List Int)(k:Nat)(h:k<l.length)(h1:l[k]≠62)(h2:Q3k l[k]=false)(h3:l[k]≠91):Q2v l k true=Q2v l (k+1) true:=by
 conv=>lhs;rw[Q2v]
 rw[dif_pos ⟨h,rfl⟩,if_neg h1,if_neg (by simp[h2]),if_neg h3]
def Q3E(l:List Int)(k:Nat):Nat×Nat×Bool:=(7,(Q2v l (k+9) true).1,(Q2v l (k+9) true).2)
def Q1H(l:List Int)(k:Nat):Nat×Nat×Bool :=
 if Q6 l k [60,33,45,45]=true then Q14 l 4 k 4 [45,45,62]
 else if Q6 l k [60,33,91,67,68,65,84,65,91]=true then Q14 l 6 k 9 [93,93,62]
 else if Q6 l k [60,63]=true then Q14 l 5 k 2 [63,62]
 else if Q6 l k [60,33,68,79,67,84,89,80,69]=true then Q3E l k
 else if Q6 l k [60,47]=true then Q3h l k
 else if 0<Qj l (k+1)then Q1D l k
 else(11,k+1,false)
def Q1Q(r:Int):Bool:=r != 60&&(r != 38&&r != -1)
def Ql(l:List Int)(k:Nat):Nat×Nat×Bool :=
 if l.getD k 0=60 then Q1H l k else if l.getD k 0=38 then Q1n l k else if l.getD k 0=-1 then(11,k+1,false)
 else(1,k+((l.drop k).takeWhile Q1Q).length,true)
theorem Qd5(S:Nat->Prop)(A:Option Addr)(n c:Nat)(l:List Int)(k:Nat)(w:World)(hr:Rd w S 1 A n c (rc l))(hk:k+9<=l.length)(hl9:l.length<=1000000000) :
  Calls prog 208 #[.slice A n c,.int .i64 k] w fun e w'=>e=.returned (Q25 (Q3E l k) k)/\Below w.heap.size w w':=by
 obtain rfl:=hr.rlen;have hle:=hr.le;have hmx:c<=9223372036854775807:=hr.max;have HR:=hid hr;clear hr;obtain⟨t,ht⟩:∃t,t=Q2v l (k+9) true:=⟨_,rfl⟩;have HT:=hid ht;have HTT:Hid (Q3E l k=(7,t.1,t.2)):=by rw[Hid,ht];rfl
 clear ht;go_enter func208,ntmps208
 go_wp2
 have HTH0:=hid (Q2K w #[.int .i64 0,.int .i64 0,.int .i64 0,.bool false] 185);have HB0:=hid (ba w (.cells #[.int .i64 0,.int .i64 0,.int .i64 0,.bool false] 185));have HSZ:Hid (w.heap.size<(w.alloc (.cells #[.int .i64 0,.int .i64 0,.int .i64 0,.bool false] 185)).heap.size):=by simp[Hid]
 generalize w.alloc (.cells #[.int .i64 0,.int .i64 0,.int .i64 0,.bool false] 185)=W0 at HTH0 HB0 HSZ;have HTH0:Hid (W0.there w.heap.size 0 4):=HTH0.out;go_loopw [5,6] (fun o i wr=>∃(j:Nat) (ok:Bool),j<=l.length/\i=.int .i64 j/\o=.bool ok/\Hid (t=Q2v l j ok)/\Hid (Below w.heap.size w wr)/\Hid (wr.there w.heap.size 0 4)/\Hid (w.heap.size<wr.heap.size)) (fun _ i _=>l.length-(intOf i).toNat)
 case atStart=>exact⟨k+9,true,by omega,by go_num,rfl,HT.out,HB0.out,HTH0.out,HSZ.out⟩
 case round =>
  obtain⟨j,ok,hj,rfl,rfl,HJ,HB,HTH,HLT⟩:=hrel;by_cases hlt:j<l.length
  ·have hji:(j:Int)<(l.length:Int):=by omega
   cases ok with
   |true =>
    obtain⟨b,o,rfl,hc0⟩:=(HR.out.below HB.out).rune hlt;have H1:=hid (Q8Q l j hlt);have H2:=hid (Q8V l j hlt);have H3:=hid (Q93 l j hlt);have H4:=hid (Q7X l j hlt);have HQT:=hid (Qan l[j]);have HQD:=hid (Qbn S _ l.length c l j _ (HR.out.below HB.out) hlt hl9);have HSB:=hid (Qfy S _ l.length c l j _ (HR.out.below HB.out) hlt hl9);obtain⟨hg1,hg2⟩:=Q2C l j hlt;obtain⟨hs1,hs2⟩:=Q7D l j hlt;generalize (Q1a l j).1=qj at HQD H2 hg1 hg2;generalize (Q1a l j).2=qb at HQD H2;generalize (Q7A l j).1=sj at HSB H3 hs1 hs2;generalize (Q7A l j).2=sb at HSB H3;generalize l[j]=r at hc0 HQT H1 H2 H3 H4;by_cases h62:r=62
    ·have HE:Hid (Q3E l k=(7,j+1,true)):=by rw[Hid,HTT.out,HJ.out.trans (H1.out h62)]
     subst h62;clear H1 H2 H3 H4 HJ HTT HQD HSB HQT;have HL9:=hid (QF (P:=prog) (T:=185) wr w.heap.size [.int .i64 7,.int .i64 k,.int .i64 ((j:Int)+1),.bool true] HTH.out (by kernel_rfl) underlying185 rfl)
     have HB9:=hid (Qf HB.out w.heap.size (le_refl _) [.int .i64 7,.int .i64 k,.int .i64 ((j:Int)+1),.bool true] 0);obtain⟨⟨z0,hz0⟩,hf0⟩:=Q7 HTH.out 0 (by decide)
     obtain⟨⟨z1,hz1⟩,hf1⟩:=Q7 HTH.out 1 (by decide)
     obtain⟨⟨z2,hz2⟩,hf2⟩:=Q7 HTH.out 2 (by decide)
     obtain⟨⟨z3,hz3⟩,hf3⟩:=Q7 HTH.out 3 (by decide)
     go_wp2
     refine bodyPost_ret (Qw rfl _ rfl HL9.out) rfl ?_;rw[HE.out];exact⟨by simp[Q25],HB9.out⟩
    ·have h62b:(r == 62)=false:=by simpa using h62
     have HQT2:=fun W=>hid (HQT.out W)
     cases hq:Q3k r with
     |true =>
      have HN:=hid (HJ.out.trans (H2.out h62 hq));rw[hq]at HQT2;clear H1 H2 H3 H4 HJ HSB HQT h62 hq;go_wp2_with fail
      refine(HQT2 _).out.mono ?_;rintro e wx ⟨rfl,rfl⟩;go_wp2_with fail
      refine HQD.out.mono ?_;rintro e v2 ⟨rfl,hb2⟩;have HB2:=hid (HB.out.trans (hb2.mono HB.out.size));have HTH2:=hid (QK HTH.out hb2 HLT.out);have HLT2:=hid (lt_of_lt_of_le HLT.out hb2.size);clear hb2;go_wp2
      go_roundw
      case rel=>exact⟨qj,qb,by omega,rfl,rfl,HN.out,HB2.out,HTH2.out,HLT2.out⟩
      case measure=>simp[intOf];omega
     |false =>
      rw[hq]at HQT2;by_cases h91:r=91
      ·have HN:=hid (HJ.out.trans (H3.out h91))
       subst h91;clear H1 H2 H3 H4 HJ HQD HQT h62 hq;go_wp2_with fail
       refine(HQT2 _).out.mono ?_;rintro e wx ⟨rfl,rfl⟩;go_wp2_with fail
       refine HSB.out.mono ?_;rintro e v2 ⟨rfl,hb2⟩;have HB2:=hid (HB.out.trans (hb2.mono HB.out.size));have HTH2:=hid (QK HTH.out hb2 HLT.out);have HLT2:=hid (lt_of_lt_of_le HLT.out hb2.size);clear hb2;go_wp2
       go_roundw
       case rel=>exact⟨sj,sb,by omega,rfl,rfl,HN.out,HB2.out,HTH2.out,HLT2.out⟩
       case measure=>simp[intOf];omega
      ·have HN:=hid (HJ.out.trans (H4.out h62 hq h91))
       have h91b:(r == 91)=false:=by simpa using h91
       clear H1 H2 H3 H4 HJ HQD HSB HQT h62 hq h91;go_wp2_with fail
       refine(HQT2 _).out.mono ?_;rintro e wx ⟨rfl,rfl⟩;go_wp2
       go_roundw
       case rel=>exact⟨j+1,true,by omega,by go_num,rfl,HN.out,HB.out,HTH.out,HLT.out⟩
       case measure=>simp[intOf];omega
   |false =>
    have HE:Hid (Q3E l k=(7,l.length,false)):=by rw[Hid,HTT.out,HJ.out.trans (Q4J l j false (by simp))]
    clear HJ HTT;have HL9:=hid (QF (P:=prog) (T:=185) wr w.heap.size [.int .i64 7,.int .i64 k,.int .i64 (l.length),.bool false] HTH.out (by kernel_rfl) underlying185 rfl)
    have HB9:=hid (Qf HB.out w.heap.size (le_refl _) [.int .i64 7,.int .i64 k,.int .i64 (l.length),.bool false] 0);obtain⟨⟨z0,hz0⟩,hf0⟩:=Q7 HTH.out 0 (by decide)
    obtain⟨⟨z1,hz1⟩,hf1⟩:=Q7 HTH.out 1 (by decide)
    obtain⟨⟨z2,hz2⟩,hf2⟩:=Q7 HTH.out 2 (by decide)
    obtain⟨⟨z3,hz3⟩,hf3⟩:=Q7 HTH.out 3 (by decide)
    go_wp2
    refine bodyPost_ret (Qw rfl _ rfl HL9.out) rfl ?_;rw[HE.out];exact⟨by simp[Q25],HB9.out⟩
  ·have hji:¬(j:Int)<(l.length:Int):=by omega
   have HE:Hid (Q3E l k=(7,l.length,false)):=by rw[Hid,HTT.out,HJ.out.trans (Q4J l j ok (fun h=>hlt h.1))]
   clear HJ HTT;have HL9:=hid (QF (P:=prog) (T:=185) wr w.heap.size [.int .i64 7,.int .i64 k,.int .i64 (l.length),.bool false] HTH.out (by kernel_rfl) underlying185 rfl)
   have HB9:=hid (Qf HB.out w.heap.size (le_refl _) [.int .i64 7,.int .i64 k,.int .i64 (l.length),.bool false] 0);obtain⟨⟨z0,hz0⟩,hf0⟩:=Q7 HTH.out 0 (by decide)
   obtain⟨⟨z1,hz1⟩,hf1⟩:=Q7 HTH.out 1 (by decide)
   obtain⟨⟨z2,hz2⟩,hf2⟩:=Q7 HTH.out 2 (by decide)
   obtain⟨⟨z3,hz3⟩,hf3⟩:=Q7 HTH.out 3 (by decide)
   go_wp2
   refine bodyPost_ret (Qw rfl _ rfl HL9.out) rfl ?_;rw[HE.out];exact⟨by simp[Q25],HB9.out⟩
theorem QeT(S:Nat->Prop)(A:Option Addr)(n c:Nat)(l:List Int)(k:Nat)(w:World)(hr:Rd w S 1 A n c (rc l))(h38:l[k]?=some 38)(hl9:l.length<=1000000000) :
  Calls prog 133 #[.slice A n c,.int .i64 k] w fun e w'=>e=.returned (.tuple #[Q25 (Q1n l k) k,.bool true])/\Below w.heap.size w w':=by
 obtain rfl:=hr.rlen;have hle:=hr.le;have hmx:c<=9223372036854775807:=hr.max;obtain⟨hk,h38⟩:=List.getElem?_eq_some_iff.1 h38;obtain⟨b,o,rfl,hc0⟩:=hr.rune hk;rw[h38]at hc0;have hca:=fun ob=>Q7h (ba w ob) hc0
 have hki:¬(k:Int) ≥ (l.length:Int):=by omega
 have HRF:=fun W (h:Below w.heap.size w W)=>hid (QmC S _ _ c l k W (hr.below h) hk hl9)
 clear hr h38;generalize Q1n l k=t at HRF ⊢;obtain⟨kd,to,wh⟩:=t;have HRF:∀W,Below w.heap.size w W->Hid (Calls prog 175 #[.slice (some ⟨b,o,none⟩) l.length c,.int .i64 k] W fun e w'=>e=.returned (.agg #[.int .i64 kd,.int .i64 k,.int .i64 to,.bool wh])/\Below W.heap.size W w'):=HRF
 go_enter func133,ntmps133
 go_wp2_with fail
 have HTH0:=hid (Q2K w #[.int .i64 0,.int .i64 0,.int .i64 0,.bool false] 185);have HB0:=hid (ba w (.cells #[.int .i64 0,.int .i64 0,.int .i64 0,.bool false] 185));have HSZ:Hid (w.heap.size<(w.alloc (.cells #[.int .i64 0,.int .i64 0,.int .i64 0,.bool false] 185)).heap.size):=by simp[Hid]
 generalize w.alloc (.cells #[.int .i64 0,.int .i64 0,.int .i64 0,.bool false] 185)=W0 at HTH0 HB0 HSZ;refine(HRF _ HB0.out).out.mono ?_;rintro e w1 ⟨rfl,hb1⟩;have HB1:=hid (HB0.out.trans (hb1.mono HB0.out.size));have hth:=QK HTH0.out hb1 HSZ.out;have HL9:=hid (QF (P:=prog) (T:=185) w1 w.heap.size [.int .i64 kd,.int .i64 k,.int .i64 to,.bool wh] hth (by kernel_rfl) underlying185 rfl)
 have HB9:=hid (Qf HB1.out w.heap.size (le_refl _) [.int .i64 kd,.int .i64 k,.int .i64 to,.bool wh] 0);obtain⟨⟨z0,hz0⟩,hf0⟩:=Q7 hth 0 (by decide)
 obtain⟨⟨z1,hz1⟩,hf1⟩:=Q7 hth 1 (by decide)
 obtain⟨⟨z2,hz2⟩,hf2⟩:=Q7 hth 2 (by decide)
 obtain⟨⟨z3,hz3⟩,hf3⟩:=Q7 hth 3 (by decide)
 clear hth hb1 HTH0 HRF;go_wp2
 refine bodyPost_ret (Q4e rfl _ rfl HL9.out) rfl ?_;exact⟨rfl,HB9.out⟩
theorem Qlr{P:Program}{T:TypeId}{d:TypeDesc}(w:World)(vs:List Value)(hi:(P.info? T).map (·.size)=some vs.length)(hu:P.underlying T=some d)(hd:d.isRow=true) :
  (loadVar T ⟨w.heap.size,0,none⟩).run P (w.alloc (.cells vs.toArray T))=.ok (.agg vs.toArray) (w.alloc (.cells vs.toArray T)) :=
 run_loadVar_mid (P:=P) _ w.heap.size 0 T vs d (fun j v hv=>by
  rw[World.cell?_alloc_at _ _ _ _ rfl,Nat.zero_add];simpa using hv) hu hd hi
theorem Q17(l:List Int)(k:Nat)(bs:List UInt8)(hk:k<=l.length)(h:Q6 l k bs=true):k+bs.length<=l.length:=by
 by_cases hn:l.length<k+bs.length
 ·rw[Q66 l k bs hn hk]at h;cases h
 ·omega
theorem Qfx(S:Nat->Prop)(A:Option Addr)(n c:Nat)(l:List Int)(k:Nat)(w:World)(hr:Rd w S 1 A n c (rc l))(hk:k<l.length)(hl9:l.length<=1000000000) :
  Calls prog 174 #[.slice A n c,.int .i64 k] w fun e w'=>e=.returned (Q25 (Q1H l k) k)/\Below w.heap.size w w':=by
 obtain rfl:=hr.rlen;have hle:=hr.le;have hmx:c<=9223372036854775807:=hr.max;have HR:=hid hr
 have HSa:∀W,Below w.heap.size w W->Hid (Calls prog 185 #[.slice A l.length c,.int .i64 k,.string ⟨#[60,33,45,45]⟩] W fun e w'=>e=.returned (.bool (Q6 l k [60,33,45,45]))/\Below W.heap.size W w') :=
  fun W h=>Q24 S A l.length c l k ⟨#[60,33,45,45]⟩ W (HR.out.below h) (by omega) hl9 (by decide)
 have HSb:∀W,Below w.heap.size w W->Hid (Calls prog 185 #[.slice A l.length c,.int .i64 k,.string ⟨#[60,33,91,67,68,65,84,65,91]⟩] W fun e w'=>e=.returned (.bool (Q6 l k [60,33,91,67,68,65,84,65,91]))/\Below W.heap.size W w') :=
  fun W h=>Q24 S A l.length c l k ⟨#[60,33,91,67,68,65,84,65,91]⟩ W (HR.out.below h) (by omega) hl9 (by decide)
 have HSc:∀W,Below w.heap.size w W->Hid (Calls prog 185 #[.slice A l.length c,.int .i64 k,.string ⟨#[60,63]⟩] W fun e w'=>e=.returned (.bool (Q6 l k [60,63]))/\Below W.heap.size W w') :=
  fun W h=>Q24 S A l.length c l k ⟨#[60,63]⟩ W (HR.out.below h) (by omega) hl9 (by decide)
 have HSd:∀W,Below w.heap.size w W->Hid (Calls prog 185 #[.slice A l.length c,.int .i64 k,.string ⟨#[60,33,68,79,67,84,89,80,69]⟩] W fun e w'=>e=.returned (.bool (Q6 l k [60,33,68,79,67,84,89,80,69]))/\Below W.heap.size W w') :=
  fun W h=>Q24 S A l.length c l k ⟨#[60,33,68,79,67,84,89,80,69]⟩ W (HR.out.below h) (by omega) hl9 (by decide)
 have HSe:∀W,Below w.heap.size w W->Hid (Calls prog 185 #[.slice A l.length c,.int .i64 k,.string ⟨#[60,47]⟩] W fun e w'=>e=.returned (.bool (Q6 l k [60,47]))/\Below W.heap.size W w') :=
  fun W h=>Q24 S A l.length c l k ⟨#[60,47]⟩ W (HR.out.below h) (by omega) hl9 (by decide)
 have HUa:∀W,Below w.heap.size w W->Hid (Calls prog 207 #[.slice A l.length c,.int .i64 4,.int .i64 k,.int .i64 4,.string ⟨#[45,45,62]⟩] W fun e w'=>e=.returned (.agg #[.int .i64 (Q14 l 4 k 4 [45,45,62]).1,.int .i64 k,.int .i64 (Q14 l 4 k 4 [45,45,62]).2.1,.bool (Q14 l 4 k 4 [45,45,62]).2.2])/\Below W.heap.size W w') :=
  fun W h=>Q6D S A l.length c l 4 k 4 ⟨#[45,45,62]⟩ W (HR.out.below h) (by omega) (by decide) hl9 (by decide)
 have HUb:∀W,Below w.heap.size w W->Hid (Calls prog 207 #[.slice A l.length c,.int .i64 6,.int .i64 k,.int .i64 9,.string ⟨#[93,93,62]⟩] W fun e w'=>e=.returned (.agg #[.int .i64 (Q14 l 6 k 9 [93,93,62]).1,.int .i64 k,.int .i64 (Q14 l 6 k 9 [93,93,62]).2.1,.bool (Q14 l 6 k 9 [93,93,62]).2.2])/\Below W.heap.size W w') :=
  fun W h=>Q6D S A l.length c l 6 k 9 ⟨#[93,93,62]⟩ W (HR.out.below h) (by omega) (by decide) hl9 (by decide)
 have HUc:∀W,Below w.heap.size w W->Hid (Calls prog 207 #[.slice A l.length c,.int .i64 5,.int .i64 k,.int .i64 2,.string ⟨#[63,62]⟩] W fun e w'=>e=.returned (.agg #[.int .i64 (Q14 l 5 k 2 [63,62]).1,.int .i64 k,.int .i64 (Q14 l 5 k 2 [63,62]).2.1,.bool (Q14 l 5 k 2 [63,62]).2.2])/\Below W.heap.size W w') :=
  fun W h=>Q6D S A l.length c l 5 k 2 ⟨#[63,62]⟩ W (HR.out.below h) (by omega) (by decide) hl9 (by decide)
 have HUd:Q6 l k [60,33,68,79,67,84,89,80,69]=true->∀W,Below w.heap.size w W->Hid (Calls prog 208 #[.slice A l.length c,.int .i64 k] W fun e w'=>e=.returned (.agg #[.int .i64 (Q3E l k).1,.int .i64 k,.int .i64 (Q3E l k).2.1,.bool (Q3E l k).2.2])/\Below W.heap.size W w') :=
  fun hs W h=>Qd5 S A l.length c l k W (HR.out.below h) (by have:=Q17 l k _ (by omega) hs;simpa using this) hl9
 have HUe:Q6 l k [60,47]=true->∀W,Below w.heap.size w W->Hid (Calls prog 209 #[.slice A l.length c,.int .i64 k] W fun e w'=>e=.returned (.agg #[.int .i64 (Q3h l k).1,.int .i64 k,.int .i64 (Q3h l k).2.1,.bool (Q3h l k).2.2])/\Below W.heap.size W w') :=
  fun hs W h=>Qkk S A l.length c l k W (HR.out.below h) (by have:=Q17 l k _ (by omega) hs;simpa using this) hl9
 have HUf:∀W,Below w.heap.size w W->Hid (Calls prog 210 #[.slice A l.length c,.int .i64 k] W fun e w'=>e=.returned (.agg #[.int .i64 (Q1D l k).1,.int .i64 k,.int .i64 (Q1D l k).2.1,.bool (Q1D l k).2.2])/\Below W.heap.size W w') :=
  fun W h=>QfL S A l.length c l k W (HR.out.below h) hk hl9
 have HLD:∀W,Below w.heap.size w W->Hid (Calls prog 183 #[.slice A l.length c,.int .i64 ((k:Int)+1)] W fun e w'=>e=.returned (.int .i64 (Qj l (k+1)))/\Below W.heap.size W w'):=fun W h=>by
  rw[show((k:Int)+1)=((k+1:Nat):Int) by omega]
  exact Q78 S A l.length c l (k+1) W (HR.out.below h) (by omega)
 have HT:Hid (Q1H l k=if Q6 l k [60,33,45,45]=true then Q14 l 4 k 4 [45,45,62]
  else if Q6 l k [60,33,91,67,68,65,84,65,91]=true then Q14 l 6 k 9 [93,93,62]
  else if Q6 l k [60,63]=true then Q14 l 5 k 2 [63,62]
  else if Q6 l k [60,33,68,79,67,84,89,80,69]=true then Q3E l k
  else if Q6 l k [60,47]=true then Q3h l k
  else if 0<Qj l (k+1)then Q1D l k
  else(11,k+1,false)):=rfl
 clear hr;generalize Q1H l k=t at HT ⊢;generalize Q6 l k [60,33,45,45]=sa at HSa HT;generalize Q6 l k [60,33,91,67,68,65,84,65,91]=sb at HSb HT;generalize Q6 l k [60,63]=sc at HSc HT;generalize Q6 l k [60,33,68,79,67,84,89,80,69]=sd at HSd HT HUd;generalize Q6 l k [60,47]=se at HSe HT HUe;generalize Q14 l 4 k 4 [45,45,62]=ua at HUa HT;generalize Q14 l 6 k 9 [93,93,62]=ub at HUb HT;generalize Q14 l 5 k 2 [63,62]=uc at HUc HT;generalize Q3E l k=ud at HUd HT;generalize Q3h l k=ue at HUe HT;generalize Q1D l k=uf at HUf HT;generalize Qj l (k+1)=ld at HLD HT;obtain⟨kka,tta,wwa⟩:=ua;obtain⟨kkb,ttb,wwb⟩:=ub;obtain⟨kkc,ttc,wwc⟩:=uc;obtain⟨kkd,ttd,wwd⟩:=ud;obtain⟨kke,tte,wwe⟩:=ue;obtain⟨kkf,ttf,wwf⟩:=uf;go_enter func174,ntmps174
 go_wp2_with fail
 have HTH0:=hid (Q2K w #[.int .i64 0,.int .i64 0,.int .i64 0,.bool false] 185);have HB0:=hid (ba w (.cells #[.int .i64 0,.int .i64 0,.int .i64 0,.bool false] 185));have HSZ:Hid (w.heap.size<(w.alloc (.cells #[.int .i64 0,.int .i64 0,.int .i64 0,.bool false] 185)).heap.size):=by simp[Hid]
 generalize w.alloc (.cells #[.int .i64 0,.int .i64 0,.int .i64 0,.bool false] 185)=W0 at HTH0 HB0 HSZ;have HTH0:Hid (W0.there w.heap.size 0 4):=HTH0.out;refine(HSa _ HB0.out).out.mono ?_;rintro e va ⟨rfl,hb⟩;have HBa:=hid (HB0.out.trans (hb.mono HB0.out.size));have HTHa:Hid (va.there w.heap.size 0 4):=QK HTH0.out hb HSZ.out;have HLTa:Hid (w.heap.size<va.heap.size):=lt_of_lt_of_le HSZ.out hb.size;clear hb HSa;cases sa with
 |true =>
  have HE:Hid (t=(kka,tta,wwa)):=HT.out;clear HT;go_wp2_with fail
  refine(HUa _ HBa.out).out.mono ?_;rintro e xa ⟨rfl,hb⟩;have HBx:=hid (HBa.out.trans (hb.mono HBa.out.size));have HTHx:Hid (xa.there w.heap.size 0 4):=QK HTHa.out hb HLTa.out;clear hb;have HL9:=hid (QF (P:=prog) (T:=185) xa w.heap.size [.int .i64 kka,.int .i64 k,.int .i64 (tta),.bool wwa] HTHx.out (by kernel_rfl) underlying185 rfl)
  have HB9:=hid (Qf HBx.out w.heap.size (le_refl _) [.int .i64 kka,.int .i64 k,.int .i64 (tta),.bool wwa] 0);obtain⟨⟨z0,hz0⟩,hf0⟩:=Q7 HTHx.out 0 (by decide)
  obtain⟨⟨z1,hz1⟩,hf1⟩:=Q7 HTHx.out 1 (by decide)
  obtain⟨⟨z2,hz2⟩,hf2⟩:=Q7 HTHx.out 2 (by decide)
  obtain⟨⟨z3,hz3⟩,hf3⟩:=Q7 HTHx.out 3 (by decide)
  go_wp2
  refine bodyPost_ret (Qw rfl _ rfl HL9.out) rfl ?_;rw[HE.out];exact⟨rfl,HB9.out⟩
 |false =>
  go_wp2_with fail
  refine(HSb _ HBa.out).out.mono ?_;rintro e vb ⟨rfl,hb⟩;have HBb:=hid (HBa.out.trans (hb.mono HBa.out.size));have HTHb:Hid (vb.there w.heap.size 0 4):=QK HTHa.out hb HLTa.out;have HLTb:Hid (w.heap.size<vb.heap.size):=lt_of_lt_of_le HLTa.out hb.size;clear hb HSb;cases sb with
  |true =>
   have HE:Hid (t=(kkb,ttb,wwb)):=HT.out;clear HT;go_wp2_with fail
   refine(HUb _ HBb.out).out.mono ?_;rintro e xb ⟨rfl,hb⟩;have HBx:=hid (HBb.out.trans (hb.mono HBb.out.size));have HTHx:Hid (xb.there w.heap.size 0 4):=QK HTHb.out hb HLTb.out;clear hb;have HL9:=hid (QF (P:=prog) (T:=185) xb w.heap.size [.int .i64 kkb,.int .i64 k,.int .i64 (ttb),.bool wwb] HTHx.out (by kernel_rfl) underlying185 rfl)
   have HB9:=hid (Qf HBx.out w.heap.size (le_refl _) [.int .i64 kkb,.int .i64 k,.int .i64 (ttb),.bool wwb] 0);obtain⟨⟨z0,hz0⟩,hf0⟩:=Q7 HTHx.out 0 (by decide)
   obtain⟨⟨z1,hz1⟩,hf1⟩:=Q7 HTHx.out 1 (by decide)
   obtain⟨⟨z2,hz2⟩,hf2⟩:=Q7 HTHx.out 2 (by decide)
   obtain⟨⟨z3,hz3⟩,hf3⟩:=Q7 HTHx.out 3 (by decide)
   go_wp2
   refine bodyPost_ret (Qw rfl _ rfl HL9.out) rfl ?_;rw[HE.out];exact⟨rfl,HB9.out⟩
  |false =>
   go_wp2_with fail
   refine(HSc _ HBb.out).out.mono ?_;rintro e vc ⟨rfl,hb⟩;have HBc:=hid (HBb.out.trans (hb.mono HBb.out.size));have HTHc:Hid (vc.there w.heap.size 0 4):=QK HTHb.out hb HLTb.out;have HLTc:Hid (w.heap.size<vc.heap.size):=lt_of_lt_of_le HLTb.out hb.size;clear hb HSc;cases sc with
   |true =>
    have HE:Hid (t=(kkc,ttc,wwc)):=HT.out;clear HT;go_wp2_with fail
    refine(HUc _ HBc.out).out.mono ?_;rintro e xc ⟨rfl,hb⟩;have HBx:=hid (HBc.out.trans (hb.mono HBc.out.size));have HTHx:Hid (xc.there w.heap.size 0 4):=QK HTHc.out hb HLTc.out;clear hb;have HL9:=hid (QF (P:=prog) (T:=185) xc w.heap.size [.int .i64 kkc,.int .i64 k,.int .i64 (ttc),.bool wwc] HTHx.out (by kernel_rfl) underlying185 rfl)
    have HB9:=hid (Qf HBx.out w.heap.size (le_refl _) [.int .i64 kkc,.int .i64 k,.int .i64 (ttc),.bool wwc] 0);obtain⟨⟨z0,hz0⟩,hf0⟩:=Q7 HTHx.out 0 (by decide)
    obtain⟨⟨z1,hz1⟩,hf1⟩:=Q7 HTHx.out 1 (by decide)
    obtain⟨⟨z2,hz2⟩,hf2⟩:=Q7 HTHx.out 2 (by decide)
    obtain⟨⟨z3,hz3⟩,hf3⟩:=Q7 HTHx.out 3 (by decide)
    go_wp2
    refine bodyPost_ret (Qw rfl _ rfl HL9.out) rfl ?_;rw[HE.out];exact⟨rfl,HB9.out⟩
   |false =>
    go_wp2_with fail
    refine(HSd _ HBc.out).out.mono ?_;rintro e vd ⟨rfl,hb⟩;have HBd:=hid (HBc.out.trans (hb.mono HBc.out.size));have HTHd:Hid (vd.there w.heap.size 0 4):=QK HTHc.out hb HLTc.out;have HLTd:Hid (w.heap.size<vd.heap.size):=lt_of_lt_of_le HLTc.out hb.size;clear hb HSd;cases sd with
    |true =>
     have HE:Hid (t=(kkd,ttd,wwd)):=HT.out;clear HT;go_wp2_with fail
     refine(HUd (by first|trivial|rfl) _ HBd.out).out.mono ?_
     rintro e xd ⟨rfl,hb⟩;have HBx:=hid (HBd.out.trans (hb.mono HBd.out.size));have HTHx:Hid (xd.there w.heap.size 0 4):=QK HTHd.out hb HLTd.out;clear hb;have HL9:=hid (QF (P:=prog) (T:=185) xd w.heap.size [.int .i64 kkd,.int .i64 k,.int .i64 (ttd),.bool wwd] HTHx.out (by kernel_rfl) underlying185 rfl)
     have HB9:=hid (Qf HBx.out w.heap.size (le_refl _) [.int .i64 kkd,.int .i64 k,.int .i64 (ttd),.bool wwd] 0);obtain⟨⟨z0,hz0⟩,hf0⟩:=Q7 HTHx.out 0 (by decide)
     obtain⟨⟨z1,hz1⟩,hf1⟩:=Q7 HTHx.out 1 (by decide)
     obtain⟨⟨z2,hz2⟩,hf2⟩:=Q7 HTHx.out 2 (by decide)
     obtain⟨⟨z3,hz3⟩,hf3⟩:=Q7 HTHx.out 3 (by decide)
     go_wp2
     refine bodyPost_ret (Qw rfl _ rfl HL9.out) rfl ?_;rw[HE.out];exact⟨rfl,HB9.out⟩
    |false =>
     go_wp2_with fail
     refine(HSe _ HBd.out).out.mono ?_;rintro e ve ⟨rfl,hb⟩;have HBe:=hid (HBd.out.trans (hb.mono HBd.out.size));have HTHe:Hid (ve.there w.heap.size 0 4):=QK HTHd.out hb HLTd.out;have HLTe:Hid (w.heap.size<ve.heap.size):=lt_of_lt_of_le HLTd.out hb.size;clear hb HSe;cases se with
     |true =>
      have HE:Hid (t=(kke,tte,wwe)):=HT.out;clear HT;go_wp2_with fail
      refine(HUe (by first|trivial|rfl) _ HBe.out).out.mono ?_
      rintro e xe ⟨rfl,hb⟩;have HBx:=hid (HBe.out.trans (hb.mono HBe.out.size));have HTHx:Hid (xe.there w.heap.size 0 4):=QK HTHe.out hb HLTe.out;clear hb;have HL9:=hid (QF (P:=prog) (T:=185) xe w.heap.size [.int .i64 kke,.int .i64 k,.int .i64 (tte),.bool wwe] HTHx.out (by kernel_rfl) underlying185 rfl)
      have HB9:=hid (Qf HBx.out w.heap.size (le_refl _) [.int .i64 kke,.int .i64 k,.int .i64 (tte),.bool wwe] 0);obtain⟨⟨z0,hz0⟩,hf0⟩:=Q7 HTHx.out 0 (by decide)
      obtain⟨⟨z1,hz1⟩,hf1⟩:=Q7 HTHx.out 1 (by decide)
      obtain⟨⟨z2,hz2⟩,hf2⟩:=Q7 HTHx.out 2 (by decide)
      obtain⟨⟨z3,hz3⟩,hf3⟩:=Q7 HTHx.out 3 (by decide)
      go_wp2
      refine bodyPost_ret (Qw rfl _ rfl HL9.out) rfl ?_;rw[HE.out];exact⟨rfl,HB9.out⟩
     |false =>
      go_wp2_with fail
      refine(HLD _ HBe.out).out.mono ?_;rintro e vf ⟨rfl,hb⟩;have HBf:=hid (HBe.out.trans (hb.mono HBe.out.size));have HTHf:Hid (vf.there w.heap.size 0 4):=QK HTHe.out hb HLTe.out;have HLTf:Hid (w.heap.size<vf.heap.size):=lt_of_lt_of_le HLTe.out hb.size;clear hb HLD;by_cases hl0:0<ld
      ·have hl0i:(ld:Int) > 0:=by omega
       have HE:Hid (t=(kkf,ttf,wwf)):=by rw[Hid,HT.out];simp[hl0]
       clear HT;go_wp2_with fail
       refine(HUf _ HBf.out).out.mono ?_;rintro e xf ⟨rfl,hb⟩;have HBx:=hid (HBf.out.trans (hb.mono HBf.out.size));have HTHx:Hid (xf.there w.heap.size 0 4):=QK HTHf.out hb HLTf.out;clear hb;have HL9:=hid (QF (P:=prog) (T:=185) xf w.heap.size [.int .i64 kkf,.int .i64 k,.int .i64 (ttf),.bool wwf] HTHx.out (by kernel_rfl) underlying185 rfl)
       have HB9:=hid (Qf HBx.out w.heap.size (le_refl _) [.int .i64 kkf,.int .i64 k,.int .i64 (ttf),.bool wwf] 0);obtain⟨⟨z0,hz0⟩,hf0⟩:=Q7 HTHx.out 0 (by decide)
       obtain⟨⟨z1,hz1⟩,hf1⟩:=Q7 HTHx.out 1 (by decide)
       obtain⟨⟨z2,hz2⟩,hf2⟩:=Q7 HTHx.out 2 (by decide)
       obtain⟨⟨z3,hz3⟩,hf3⟩:=Q7 HTHx.out 3 (by decide)
       go_wp2
       refine bodyPost_ret (Qw rfl _ rfl HL9.out) rfl ?_;rw[HE.out];exact⟨rfl,HB9.out⟩
      ·have hl0i:¬(ld:Int) > 0:=by omega
       have HE:Hid (t=(11,k+1,false)):=by rw[Hid,HT.out];simp[hl0]
       clear HT;have HL9:=hid (QF (P:=prog) (T:=185) vf w.heap.size [.int .i64 11,.int .i64 k,.int .i64 ((k:Int)+1),.bool false] HTHf.out (by kernel_rfl) underlying185 rfl)
       have HB9:=hid (Qf HBf.out w.heap.size (le_refl _) [.int .i64 11,.int .i64 k,.int .i64 ((k:Int)+1),.bool false] 0);obtain⟨⟨z0,hz0⟩,hf0⟩:=Q7 HTHf.out 0 (by decide)
       obtain⟨⟨z1,hz1⟩,hf1⟩:=Q7 HTHf.out 1 (by decide)
       obtain⟨⟨z2,hz2⟩,hf2⟩:=Q7 HTHf.out 2 (by decide)
       obtain⟨⟨z3,hz3⟩,hf3⟩:=Q7 HTHf.out 3 (by decide)
       go_wp2
       refine bodyPost_ret (Qw rfl _ rfl HL9.out) rfl ?_;rw[HE.out];exact⟨by simp[Q25],HB9.out⟩
theorem Qfw(r:Int)(w:World):Calls prog 177 #[.int .i32 r] w fun e w'=>e=.returned (.bool (Q1Q r))/\w=w':=by
 by_cases h1:r=60
 ·subst h1
  go_enter func177,ntmps177
  go_wp2
  go_ret
  exact⟨rfl,rfl⟩
 ·have h1b:(r != 60)=true:=by simpa using h1
  by_cases h2:r=38
  ·subst h2
   clear h1;go_enter func177,ntmps177
   go_wp2
   go_ret
   exact⟨rfl,rfl⟩
  ·have h2b:(r != 38)=true:=by simpa using h2
   have HE:Hid (Q1Q r=(r != -1)):=by rw[Hid,Q1Q,h1b,h2b,Bool.true_and,Bool.true_and]
   clear h1 h2;go_enter func177,ntmps177
   go_wp2
   go_ret
   exact⟨QR HE.out.symm,rfl⟩
theorem Qjm(w:World):Q7L prog 177 #[] Q1Q w:=fun W r _=>(Qfw r W).mono fun _ _ ⟨h1,h2⟩=>⟨h1,h2 ▸ Below.refl _ _⟩
theorem QhX:∀args w,(callFunc 177 args).run prog w=.ok (.enter 177 args) w:=enters_of func177 (by kernel_rfl) rfl
theorem QhE(S:Nat->Prop)(A:Option Addr)(n c:Nat)(l:List Int)(k:Nat)(w:World)(hr:Rd w S 1 A n c (rc l))(hk:k<l.length)(hl9:l.length<=1000000000) :
  Calls prog 133 #[.slice A n c,.int .i64 k] w fun e w'=>e=.returned (.tuple #[Q25 (Ql l k) k,.bool true])/\Below w.heap.size w w':=by
 obtain rfl:=hr.rlen;have hle:=hr.le;have hmx:c<=9223372036854775807:=hr.max;by_cases h38:l[k]=38
 ·have HE:Ql l k=Q1n l k:=by rw[Ql,Q89 hk,h38];rfl
  rw[HE];exact QeT S A _ c l k w hr (by rw[List.getElem?_eq_getElem hk,h38]) hl9
 ·obtain⟨b,o,rfl,hc0⟩:=hr.rune hk
  have hca:=fun ob=>Q7h (ba w ob) hc0
  have hki:¬(k:Int) ≥ (l.length:Int):=by omega
  have hkj:(k:Int)<(l.length:Int):=by omega
  have HMK:=fun W (h:Below w.heap.size w W)=>hid (Qfx S _ _ c l k W (hr.below h) hk hl9)
  have HMK:∀W,Below w.heap.size w W->Hid (Calls prog 174 #[.slice (some ⟨b,o,none⟩) l.length c,.int .i64 k] W fun e w'=>e=.returned (.agg #[.int .i64 (Q1H l k).1,.int .i64 k,.int .i64 (Q1H l k).2.1,.bool (Q1H l k).2.2])/\Below W.heap.size W w'):=HMK
  have HRN:=fun W (h:Below w.heap.size w W)=>(Q8g S _ l.length c l k _ #[] Q1Q W QhX (hr.below h) (Qjm W))
  have hrn:Q2X Q1Q l k=((l.drop k).takeWhile Q1Q).length:=by rw[Q2X,if_neg (by omega),Int.toNat_natCast]
  rw[hrn]at HRN;have HRN:=fun W h=>hid (HRN W h)
  have hrl:=(List.takeWhile_sublist Q1Q (l:=l.drop k)).length_le;rw[List.length_drop]at hrl;have HT:Hid (Ql l k=if l[k]=60 then Q1H l k else if l[k]=38 then Q1n l k else if l[k]=-1 then(11,k+1,false)else(1,k+((l.drop k).takeWhile Q1Q).length,true)):=by rw[Hid,Ql,Q89 hk]
  clear hr hrn;generalize Ql l k=t at HT ⊢;generalize Q1H l k=mk at HMK HT;generalize ((l.drop k).takeWhile Q1Q).length=rn at HRN HT hrl;obtain⟨mka,mkb,mkc⟩:=mk;generalize l[k]=r at hc0 hca HT h38;have h38b:(r == 38)=false:=by simpa using h38
  by_cases h60:r=60
  ·have HE:Hid (t=(mka,mkb,mkc)):=by rw[Hid,HT.out,if_pos h60]
   subst h60;clear HT h38 hc0 HRN;go_enter func133,ntmps133
   go_wp2_with fail
   have HTH0:=hid (Q2K w #[.int .i64 0,.int .i64 0,.int .i64 0,.bool false] 185);have HB0:=hid (ba w (.cells #[.int .i64 0,.int .i64 0,.int .i64 0,.bool false] 185));have HSZ:Hid (w.heap.size<(w.alloc (.cells #[.int .i64 0,.int .i64 0,.int .i64 0,.bool false] 185)).heap.size):=by simp[Hid]
   generalize w.alloc (.cells #[.int .i64 0,.int .i64 0,.int .i64 0,.bool false] 185)=W0 at HTH0 HB0 HSZ;refine(HMK _ HB0.out).out.mono ?_;rintro e w1 ⟨rfl,hb1⟩;have HB1:=hid (HB0.out.trans (hb1.mono HB0.out.size));have HTH1:Hid (w1.there w.heap.size 0 4):=QK HTH0.out hb1 HSZ.out;clear hb1 HTH0 HSZ;have HL9:=hid (QF (P:=prog) (T:=185) w1 w.heap.size [.int .i64 mka,.int .i64 k,.int .i64 (mkb),.bool mkc] HTH1.out (by kernel_rfl) underlying185 rfl)
   have HB9:=hid (Qf HB1.out w.heap.size (le_refl _) [.int .i64 mka,.int .i64 k,.int .i64 (mkb),.bool mkc] 0);obtain⟨⟨z0,hz0⟩,hf0⟩:=Q7 HTH1.out 0 (by decide)
   obtain⟨⟨z1,hz1⟩,hf1⟩:=Q7 HTH1.out 1 (by decide)
   obtain⟨⟨z2,hz2⟩,hf2⟩:=Q7 HTH1.out 2 (by decide)
   obtain⟨⟨z3,hz3⟩,hf3⟩:=Q7 HTH1.out 3 (by decide)
   go_wp2
   refine bodyPost_ret (Q4e rfl _ rfl HL9.out) rfl ?_;rw[HE.out];exact⟨rfl,HB9.out⟩
  ·have h60b:(r == 60)=false:=by simpa using h60
   by_cases h1:r=-1
   ·have HE:Hid (t=(11,k+1,false)):=by rw[Hid,HT.out,if_neg h60,if_neg h38,if_pos h1]
    subst h1;clear HT h38 h60 hc0 HRN HMK;have HL9:=hid (Qlr (P:=prog) (T:=185) w [.int .i64 11,.int .i64 k,.int .i64 ((k:Int)+1),.bool false] (by kernel_rfl) underlying185 rfl)
    have HB9:=hid (ba w (.cells #[.int .i64 11,.int .i64 k,.int .i64 ((k:Int)+1),.bool false] 185));go_enter func133,ntmps133
    go_wp2
    refine bodyPost_ret (Q4e rfl _ rfl HL9.out) rfl ?_;rw[HE.out];exact⟨by simp[Q25],HB9.out⟩
   ·have h1b:(r == -1)=false:=by simpa using h1
    have HE:Hid (t=(1,k+rn,true)):=by rw[Hid,HT.out,if_neg h60,if_neg h38,if_neg h1]
    clear HT h38 h60 h1 hc0 HMK;go_enter func133,ntmps133
    go_wp2_with fail
    have HTH0:=hid (Q2K w #[.int .i64 0,.int .i64 0,.int .i64 0,.bool false] 185);have HB0:=hid (ba w (.cells #[.int .i64 0,.int .i64 0,.int .i64 0,.bool false] 185));have HSZ:Hid (w.heap.size<(w.alloc (.cells #[.int .i64 0,.int .i64 0,.int .i64 0,.bool false] 185)).heap.size):=by simp[Hid]
    generalize w.alloc (.cells #[.int .i64 0,.int .i64 0,.int .i64 0,.bool false] 185)=W0 at HTH0 HB0 HSZ;refine(HRN _ HB0.out).out.mono ?_;rintro e w1 ⟨rfl,hb1⟩;have HB1:=hid (HB0.out.trans (hb1.mono HB0.out.size));have HTH1:Hid (w1.there w.heap.size 0 4):=QK HTH0.out hb1 HSZ.out;clear hb1 HTH0 HSZ;have HL9:=hid (QF (P:=prog) (T:=185) w1 w.heap.size [.int .i64 1,.int .i64 k,.int .i64 ((k:Int)+(rn:Int)),.bool true] HTH1.out (by kernel_rfl) underlying185 rfl)
    have HB9:=hid (Qf HB1.out w.heap.size (le_refl _) [.int .i64 1,.int .i64 k,.int .i64 ((k:Int)+(rn:Int)),.bool true] 0);obtain⟨⟨z0,hz0⟩,hf0⟩:=Q7 HTH1.out 0 (by decide)
    obtain⟨⟨z1,hz1⟩,hf1⟩:=Q7 HTH1.out 1 (by decide)
    obtain⟨⟨z2,hz2⟩,hf2⟩:=Q7 HTH1.out 2 (by decide)
    obtain⟨⟨z3,hz3⟩,hf3⟩:=Q7 HTH1.out 3 (by decide)
    go_wp2
    refine bodyPost_ret (Q4e rfl _ rfl HL9.out) rfl ?_;rw[HE.out];exact⟨by simp[Q25],HB9.out⟩
end
theorem Qe9(l:List Int):∀(n k:Nat),l.length-k<=n->k<=l.length->k<=(Q2q l k).1/\(Q2q l k).1<=l.length:=by
 intro n;induction n with
 |zero =>
  intro k h hk;rw[Q8F l k (by omega)]
  simp only;omega
 |succ n ih =>
  intro k h hk;by_cases jA:k<l.length
  ·by_cases h1:l[k]=62
   ·rw[QeK l k jA h1];simp only;omega
   ·by_cases h2:l[k]=60
    ·rw[QdM l k jA h2];simp only;omega
    ·have:=ih (k+1) (by omega) (by omega)
     rw[Q9L l k jA h1 h2];omega
  ·rw[Q8F l k jA];simp only;omega
theorem Qec(l:List Int):∀(n k:Nat)(ok:Bool),l.length-k<=n->k<=l.length->k<=(Q2v l k ok).1/\(Q2v l k ok).1<=l.length:=by
 intro n;induction n with
 |zero =>
  intro k ok h hk;rw[Q4J l k ok (by omega)]
  simp only;omega
 |succ n ih =>
  intro k ok h hk;by_cases jA:k<l.length/\ok=true
  ·obtain⟨jA,rfl⟩:=jA
   by_cases h1:l[k]=62
   ·rw[Q8Q l k jA h1];simp only;omega
   ·cases h2:Q3k l[k]with
    |true =>
     have:=Q2C l k jA
     have:=ih (Q1a l k).1 (Q1a l k).2 (by omega) (by omega)
     rw[Q8V l k jA h1 h2];omega
    |false =>
     by_cases h3:l[k]=91
     ·have:=Q7D l k jA
      have:=ih (Q7A l k).1 (Q7A l k).2 (by omega) (by omega)
      rw[Q93 l k jA h3];omega
     ·have:=ih (k+1) true (by omega) (by omega)
      rw[Q7X l k jA h1 h2 h3];omega
  ·rw[Q4J l k ok jA];simp only;omega
theorem QbF(l:List Int)(k:Nat)(hk:k<l.length):k<(Q1H l k).2.1/\(Q1H l k).2.1<=l.length:=by
 unfold Q1H;split
 ·exact Q4m l _ k _ _ hk (by decide)
 ·split
  ·exact Q4m l _ k _ _ hk (by decide)
  ·split
   ·exact Q4m l _ k _ _ hk (by decide)
   ·split
    ·rename_i h
     have h9:=Q17 l k _ (by omega) h
     have h9:k+9<=l.length:=by simpa using h9
     have:=Qec l l.length (k+9) true (by omega) (by omega)
     unfold Q3E;simp only;omega
    ·split
     ·rename_i h
      have h2:=Q17 l k _ (by omega) h
      have h2:k+2<=l.length:=by simpa using h2
      have:=Qe9 l l.length (k+2) (by omega) (by omega)
      unfold Q3h;simp only;omega
     ·split
      ·have h:=Q38 l true l.length (k+1) (by omega) (by omega)
       unfold Q1D;split
       ·simp only;omega
       ·rename_i hb
        have:=h.2.2 (by simpa using hb)
        split<;>(simp only;omega)
      ·simp only;omega
theorem Q2E(l:List Int)(k:Nat)(hk:k<l.length):k<(Ql l k).2.1/\(Ql l k).2.1<=l.length:=by
 unfold Ql;rw[Q89 hk];split
 ·exact QbF l k hk
 ·split
  ·exact⟨QjE l k,QnJ l k hk⟩
  ·split
   ·simp only;omega
   ·rename_i h1 h2 h3
    have hp:Q1Q l[k]=true:=by simp[Q1Q,h1,h2,h3]
    have hs:=(List.takeWhile_sublist Q1Q (l:=l.drop k)).length_le;rw[List.length_drop]at hs;rw[List.drop_eq_getElem_cons hk,List.takeWhile_cons,hp]at hs ⊢;simp only[if_true,List.length_cons]at hs ⊢;omega
def Q4Z(l:List Int)(k:Nat):List ((Nat×Nat×Bool)×Nat):=if h:k<l.length then(Ql l k,k)::Q4Z l (Ql l k).2.1 else []
termination_by l.length-k
decreasing_by
 have:=Q2E l k h;omega
theorem QbC(l:List Int)(k:Nat)(h:k<l.length):Q4Z l k=(Ql l k,k)::Q4Z l (Ql l k).2.1:=by
 conv=>lhs;rw[Q4Z]
 rw[dif_pos h]
theorem Qdg(l:List Int)(k:Nat)(h:¬k<l.length):Q4Z l k=[]:=by rw[Q4Z,dif_neg h]
section
open Tryz
def Q3Q(l:List Int):List UInt8:=l.flatMap fun x=>if x=-1 then []else Q10 [x]
theorem Qix(l:List Int){k:Nat}(h:k<l.length):Q3Q (l.take (k+1))=Q3Q (l.take k)++(if l[k]=-1 then []else Q10 [l[k]]):=by
 rw[Q3Q,Q3Q,List.take_succ_eq_append_getElem h,List.flatMap_append];simp
theorem Qba(l:List Int):(Q3Q l).length<=4 * l.length:=by
 induction l with
 |nil=>exact zero_le _
 |cons x r ih =>
  have h1:(if x=-1 then([]:List UInt8)else Q10 [x]).length<=4:=by
   split
   ·exact zero_le _
   ·have:=Q7T [x];simpa using this
  have e:Q3Q (x::r)=(if x=-1 then []else Q10 [x])++Q3Q r:=rfl;rw[e,List.length_append,List.length_cons];omega
theorem Sb.below{B b:Nat}{xs:List UInt8}{w w':World}(h:Sb B b xs w)(hb:Below w.heap.size w w'):Sb B b xs w':=by
 have key:∀p,Lib.BuilderAt 162 5 B b p (bc xs) w->Lib.BuilderAt 162 5 B b p (bc xs) w':=by
  rintro p ⟨hB,v,hbk,hown,hne⟩;have hlt:b<w.heap.size:=Lib.BuilderAt.lt ⟨hB,v,hbk,hown,hne⟩;exact⟨hB,v,by rw[hb.block b hlt];exact hbk,QbR hown hb,hne⟩
 exact h.imp (key _) (key _)
theorem Sb.lt{B b:Nat}{xs:List UInt8}{w:World}(h:Sb B b xs w):b<w.heap.size:=by
 rcases h with h|h
 ·exact h.lt
 ·exact h.lt
theorem QmH(A:Option Addr)(n c i j:Nat)(w:World)(hij:i<=j)(hj:j<=n) :
  Calls prog 103 #[.agg #[.int .i64 0,.int .i64 0,.slice A n c,.slice none 0 0],.int .i64 i,.int .i64 j] w fun e w'=>e=.returned (.bool true)/\Below w.heap.size w w':=by
 go_enter func103,ntmps103
 go_wp2
 go_ret
 exact⟨rfl,(Below.refl _ w).alloc (le_refl _) _⟩
theorem Qe6(S:Nat->Prop)(A:Option Addr)(n c:Nat)(l:List Int)(i j:Nat)(w:World)(hr:Rd w S 1 A n c (rc l))(hij:i<=j)(hj:j<=l.length)(hl:l.length<=1000000)(hne:Q3Q ((l.drop i).take (j-i))≠[]) :
  Calls prog 50 #[.agg #[.int .i64 0,.int .i64 0,.slice A n c,.slice none 0 0],.int .i64 i,.int .i64 j] w fun e w'=>e=.returned (.string ⟨(Q3Q ((l.drop i).take (j-i))).toArray⟩)/\Below w.heap.size w w':=by
 obtain rfl:=hr.rlen;have hle:=hr.le;have hmx:c<=9223372036854775807:=hr.max;obtain⟨A2,hr2,hcut⟩:=hr.cutLH (P:=prog) (t:=26) underlying26 sizeOf21 hij hj;have hrc:((rc l).drop (i * 1)).take ((j-i) * 1)=rc ((l.drop i).take (j-i)):=by simp[rc,List.map_take,List.map_drop]
 rw[hrc]at hr2;obtain⟨s,hs⟩:∃s,s=(l.drop i).take (j-i):=⟨_,rfl⟩;rw[<-hs]at hr2 hne ⊢;have hsl:s.length=j-i:=by rw[hs,List.length_take,List.length_drop];omega
 have HR:=hid hr2;have HC:=hid hcut;clear hr hr2 hrc hs hcut;go_enter func50,ntmps50
 go_wp2_with (go_at_call 103;refine(QmH _ _ _ _ _ _ hij hj).mono ?_);rintro e w1 ⟨rfl,hb1⟩;have HB1:=hid (bt (ba w _) hb1);have hc0:w1.cell? ⟨w.heap.size,2,none⟩=some (.slice A l.length c):=Q7h hb1 (QkR w _ _ 2 rfl);have hlt0:w.heap.size<w1.heap.size:=World.block_lt_of_cell? w1 _ hc0;have hc1:(w1.alloc (.cells #[.pointer none,.slice none 0 0] 162)).cell? ⟨w.heap.size,2,none⟩=some (.slice A l.length c):=Q7h ((Below.refl _ w1).alloc (le_refl _) _) hc0;have HSB:Hid (Sb w1.heap.size w1.heap.size [] (w1.alloc (.cells #[.pointer none,.slice none 0 0] 162))):=Lib.fresh_isBuilder 162 5 w1;have hcut:=HC.out;clear hb1 hc0;go_wp2
 clear hcut
 go_loopw [21] (fun q wr=>∃(k:Nat),k<=s.length/\q=.int .i64 k/\Hid (Sb w1.heap.size w1.heap.size (Q3Q (s.take k)) wr)/\Hid (Below w1.heap.size w1 wr))
  (fun q _=>s.length-(intOf q).toNat)
 case atStart=>exact⟨0,zero_le _,rfl,HSB.out,ba w1 _⟩
 case round =>
  obtain⟨k,hk,rfl,HO,HB⟩:=hrel;have hsz:=HB.out.size;have hblt:=HO.out.lt;have hfl:=Qba (s.take k);rw[List.length_take]at hfl;by_cases hlt:k<s.length
  ·obtain⟨b,u,rfl,hc2⟩:=(HR.out.below (bt HB1.out HB.out)).rune hlt
   have HST:=hid (Qix s hlt);generalize s[k]=r at hc2 HST;by_cases hb:r=-1
   ·have hS2:Q3Q (s.take (k+1))=Q3Q (s.take k):=by rw[HST.out,if_pos hb,List.append_nil]
    have HST2:=hid hS2;clear HST hS2;subst hb;go_wp2
    go_roundw
    case rel=>exact⟨k+1,by omega,by go_num,by rw[HST2.out];exact HO.out,HB.out⟩
    case measure=>simp[intOf];omega
   ·have hS2:Q3Q (s.take (k+1))=Q3Q (s.take k)++Q10 [r]:=by rw[HST.out,if_neg hb]
    have HST2:=hid hS2;clear HST hS2;have hbl:=Q7T [r];simp only[List.length_singleton]at hbl;have hsa:(wr.alloc (.cells #[.int .i32 r] 21)).heap.size=wr.heap.size+1:=by simp
    go_wp2_with fail
    refine(Qi5 _ _ 1 1 [r] _ (Rd.litN wr wr.heap.size rfl _ #[.int .i32 r] 1 1 rfl (by decide)) (by simp)).mono ?_
    rintro e w2 ⟨v,rfl,⟨n2,hown⟩,hb2⟩;have hn2:=QaG hown;obtain⟨A3,c3,rfl,hro⟩:=Q1C hown;have HO2:=hid ((HO.out.below (ba wr _)).below hb2);have HB2:=hid (bb (bb HB.out (ba wr _) hsz) hb2 (by omega))
    have hsz2:=HB2.out.size;have HRO:=hid hro;have hc3:c3<=9223372036854775807:=hro.max;subst hn2;clear hown hb2 hro;go_wp2_with fail
    refine(QdV _ A3 _ c3 w1.heap.size w1.heap.size (Q3Q (s.take k)) (Q10 [r]) w2 HO2.out HRO.out (by omega) (by omega) hsz2).mono ?_
    rintro e w3 ⟨rfl,h3,hb3⟩;have HO3:=hid h3;have HB3:=hid (HB2.out.trans hb3);clear h3 hb3;go_wp2
    go_roundw
    case rel=>exact⟨k+1,by omega,by go_num,by rw[HST2.out];exact HO3.out,HB3.out⟩
    case measure=>simp[intOf];omega
  ·have e:s.take k=s:=List.take_of_length_le (by omega)
   rw[e]at HO;go_wp2_with fail
   refine(Qdy w1.heap.size w1.heap.size (Q3Q s) wr HO.out hne).mono ?_;rintro e w3 ⟨rfl,hb3⟩;have HB3:=hid (HB.out.trans hb3);clear hb3;go_wp2
   go_ret
   exact⟨rfl,HB1.out.trans (HB3.out.mono HB1.out.size)⟩
