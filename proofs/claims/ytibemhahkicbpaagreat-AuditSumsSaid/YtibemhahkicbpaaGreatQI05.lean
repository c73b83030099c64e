/-
  Parts of the proof, joined: LxA LxB LxC LxD RfD LxE LxF Sc. Conditions: as each theorem says.
-/
import Derived.Test.YtibemhahkicbpaaGreatQI03
import Derived.Test.YtibemhahkicbpaaGreatQI01
import Derived.Test.YtibemhahkicbpaaGreatQI02
set_option maxRecDepth 100000
set_option maxHeartbeats 8000000
namespace Go.Proofs.YtibemhahkicbpaaGreat
open Go.RowKit Go.Lib Tryz
def Q4f (r:Int):Bool:=r == 34||r == 39
def Q5Z (l:List Int)(q:Int)(k:Nat):Nat×Bool:=if h:k<l.length then (if l[k]=q then (k+1,true) else Q5Z l q (k+1)) else (l.length,false)
termination_by l.length-k
theorem Qbm (l:List Int)(q:Int)(k:Nat)(h:k<l.length)(hq:l[k]=q):Q5Z l q k=(k+1,true):=by rw[Q5Z,dif_pos h,if_pos hq]
theorem Q9F (l:List Int)(q:Int)(k:Nat)(h:k<l.length)(hq:l[k]≠q):Q5Z l q k=Q5Z l q (k+1):=by rw[Q5Z,dif_pos h,if_neg hq]
theorem Q8W (l:List Int)(q:Int)(k:Nat)(h:¬ k<l.length):Q5Z l q k=(l.length,false):=by rw[Q5Z,dif_neg h]
theorem QcE (l:List Int)(q:Int):∀ (n k:Nat),l.length-k≤n→k≤l.length→k≤(Q5Z l q k).1∧(Q5Z l q k).1≤l.length∧(k<l.length→k<(Q5Z l q k).1∨(Q5Z l q k).1=l.length):=by
 intro n
 induction n with
 |zero =>
  intro k h hk
  rw[Q8W l q k (by omega)]
  simp only;omega
 |succ n ih =>
  intro k h hk
  by_cases hlt:k<l.length
  ·by_cases hq:l[k]=q
   ·rw[Qbm l q k hlt hq];simp only;omega
   ·rw[Q9F l q k hlt hq]
    have:=ih (k+1) (by omega) (by omega)
    omega
  ·rw[Q8W l q k hlt];simp only;omega
def Q1c (l:List Int)(k:Nat):Nat×Bool:=Q5Z l (l.getD k 0) (k+1)
theorem Q30 (l:List Int)(k:Nat)(h:k<l.length):k<(Q1c l k).1∧(Q1c l k).1≤l.length:=by
 have:=QcE l (l.getD k 0) l.length (k+1) (by omega) (by omega)
 unfold Q1c;omega
def QF (l:List Int)(stops:Bool)(k:Nat):Nat×Bool :=
 if h:k<l.length then
  (if Q4f l[k] then QF l stops (Q1c l k).1 else if l[k]=62 then (k,true) else if l[k]=60∧stops=true then (k,false) else QF l stops (k+1))
 else (l.length,false)
termination_by l.length-k
decreasing_by
 ·have:=Q30 l k (by assumption);omega
 ·omega
theorem Q5P (l:List Int)(s:Bool)(k:Nat)(h:¬ k<l.length):QF l s k=(l.length,false):=by rw[QF,dif_neg h]
theorem Q84 (l:List Int)(s:Bool)(k:Nat)(h:k<l.length)(hq:Q4f l[k]=true):QF l s k=QF l s (Q1c l k).1:=by
 conv=>lhs;rw[QF]
 rw[dif_pos h,if_pos hq]
theorem Qa5 (l:List Int)(s:Bool)(k:Nat)(h:k<l.length)(hq:l[k]=62):QF l s k=(k,true):=by
 rw[QF,dif_pos h,if_neg (by rw[hq];decide),if_pos hq]
theorem Qae (l:List Int)(k:Nat)(h:k<l.length)(hq:l[k]=60):QF l true k=(k,false):=by
 rw[QF,dif_pos h,if_neg (by rw[hq];decide),if_neg (by rw[hq];decide),if_pos ⟨hq,rfl⟩]
theorem Q7o (l:List Int)(s:Bool)(k:Nat)(h:k<l.length)(h1:Q4f l[k]=false)(h2:l[k]≠62)(h3:¬ (l[k]=60∧s=true)):QF l s k=QF l s (k+1):=by
 conv=>lhs;rw[QF]
 rw[dif_pos h,if_neg (by simp[h1]),if_neg h2,if_neg h3]
theorem Q3r (l:List Int)(s:Bool):∀ (n k:Nat),l.length-k≤n→k≤l.length→k≤(QF l s k).1∧(QF l s k).1≤l.length∧((QF l s k).2=true→(QF l s k).1<l.length):=by
 intro n
 induction n with
 |zero =>
  intro k h hk
  rw[Q5P l s k (by omega)]
  simp;omega
 |succ n ih =>
  intro k h hk
  by_cases hlt:k<l.length
  ·cases hq:Q4f l[k] with
   |true =>
    have:=Q30 l k hlt
    have:=ih (Q1c l k).1 (by omega) (by omega)
    rw[Q84 l s k hlt hq];exact⟨by omega,by omega,this.2.2⟩
   |false =>
    by_cases h2:l[k]=62
    ·rw[Qa5 l s k hlt h2];simp;omega
    ·by_cases h3:l[k]=60∧s=true
     ·obtain⟨h3,rfl⟩:=h3
      rw[Qae l k hlt h3];simp;omega
     ·have:=ih (k+1) (by omega) (by omega)
      rw[Q7o l s k hlt hq h2 h3];exact⟨by omega,by omega,this.2.2⟩
  ·rw[Q5P l s k hlt]
   simp;omega
theorem Q8u (r:Int)(w:World):Calls prog 225 #[.int .i32 r] w fun e w'=>e=.returned (.bool (Q4f r))∧w=w':=by
 by_cases h:r=34
 ·subst h
  go_enter func225,ntmps225
  go_wp2
  go_ret
  exact⟨rfl,rfl⟩
 ·have hb:(r == 34)=false:=by simpa using h
  have HE:Hid (Q4f r=(r == 39)):=by rw[Hid,Q4f,hb,Bool.false_or]
  clear h
  go_enter func225,ntmps225
  go_wp2
  go_ret
  exact⟨QW HE.out.symm,rfl⟩
theorem Q90 (S:Nat→Prop)(A:Option Addr)(n c:Nat)(l:List Int)(k:Nat)(w:World)(hr:Rd w S 1 A n c (rc l))(hk:k<l.length)(hl9:l.length≤1000000000) :
  Calls prog 226 #[.slice A n c,.int .i64 k] w fun e w'=>e=.returned (.tuple #[.int .i64 (Q1c l k).1,.bool (Q1c l k).2])∧Below w.heap.size w w':=by
 obtain rfl:=hr.rlen
 have hle:=hr.le
 have hmx:c≤9223372036854775807:=hr.max
 have HR:=Lib.hid hr
 have hki:(k:Int)<(l.length:Int):=by omega
 have HT:Hid (Q1c l k=Q5Z l l[k] (k+1)):=by rw[Hid,Q1c,Q6D hk]
 have HQ:=fun W (h:Below w.heap.size w W)=>Lib.hid ((HR.out.below h).rune hk)
 clear hr
 generalize Q1c l k=t at HT ⊢
 generalize l[k]=q at HT HQ
 go_enter func226,ntmps226
 go_wp2
 go_loopw [6] (fun i wr=>∃ j:Nat,k+1≤j∧j≤l.length∧i=.int .i64 j∧Hid (t=Q5Z l q j)∧Hid (Below w.heap.size w wr)) (fun i _=>l.length-(intOf i).toNat)
 case atStart=>exact⟨k+1,Nat.le_refl _,by omega,by go_num,HT.out,Below.refl _ _⟩
 case round =>
  obtain⟨j,hj1,hj2,rfl,HJ,HB⟩:=hrel
  by_cases hlt:j<l.length
  ·have hji:(j:Int)<(l.length:Int):=by omega
   obtain⟨b,o,rfl,hc0⟩:=(HR.out.below HB.out).rune hlt
   obtain⟨b',o',hA,hc1⟩:=(HQ _ HB.out).out
   injection hA with hA
   injection hA with e1 e2
   subst e1 e2
   have HH:=Lib.hid (Qbm l q j hlt)
   have HM:=Lib.hid (Q9F l q j hlt)
   generalize l[j]=r at hc0 HH HM
   by_cases hq:r=q
   ·have HE:=Lib.hid (HJ.out.trans (HH.out hq))
    have hb:(r == q)=true:=by simpa using hq
    clear HH HM HJ hq
    go_wp2
    go_quiet (fail)
    go_wp2
    go_ret2
    rw[HE.out]
    exact⟨rfl,Q2d HB.out _⟩
   ·have HE:=Lib.hid (HJ.out.trans (HM.out hq))
    have hb:(r == q)=false:=by simpa using hq
    clear HH HM HJ hq
    go_wp2
    go_quiet (fail)
    go_wp2
    go_roundw
    case rel=>exact⟨j+1,by omega,by omega,by go_num,HE.out,Q2d HB.out _⟩
    case measure=>simp[intOf];omega
  ·have hji:¬ (j:Int)<(l.length:Int):=by omega
   have HE:=Lib.hid (HJ.out.trans (Q8W l q j hlt))
   clear HJ
   go_wp2
   go_ret2
   rw[HE.out]
   exact⟨rfl,HB.out⟩
theorem Q9V (S:Nat→Prop)(A:Option Addr)(n c:Nat)(l:List Int)(k:Nat)(s:Bool)(w:World)(hr:Rd w S 1 A n c (rc l))(hk:k≤l.length)(hl9:l.length≤1000000000) :
  Calls prog 228 #[.slice A n c,.int .i64 k,.bool s] w fun e w'=>e=.returned (.tuple #[.int .i64 (QF l s k).1,.bool (QF l s k).2])∧Below w.heap.size w w':=by
 obtain rfl:=hr.rlen
 have hle:=hr.le
 have hmx:c≤9223372036854775807:=hr.max
 have HR:=Lib.hid hr
 clear hr
 obtain⟨t,ht⟩:∃ t,t=QF l s k:=⟨_,rfl⟩
 rw[←ht]
 have HT:=Lib.hid ht
 clear ht
 go_enter func228,ntmps228
 go_wp2
 go_loopw [1] (fun i wr=>∃ j:Nat,j≤l.length∧i=.int .i64 j∧Hid (t=QF l s j)∧Hid (Below w.heap.size w wr)) (fun i _=>l.length-(intOf i).toNat)
 case atStart=>exact⟨k,hk,rfl,HT.out,Below.refl _ _⟩
 case round =>
  obtain⟨j,hj,rfl,HJ,HB⟩:=hrel
  by_cases hlt:j<l.length
  ·have hji:(j:Int)<(l.length:Int):=by omega
   obtain⟨b,o,rfl,hc0⟩:=(HR.out.below HB.out).rune hlt
   have HQT:=Lib.hid (Q8u l[j])
   have HQD:=Lib.hid (Q90 S _ l.length c l j _ (HR.out.below HB.out) hlt hl9)
   obtain⟨hg1,hg2⟩:=Q30 l j hlt
   have H1:=Lib.hid (Q84 l s j hlt)
   have H2:=Lib.hid (Qa5 l s j hlt)
   have H4:=Lib.hid (Q7o l s j hlt)
   have H3:=Lib.hid (show s=true→l[j]=60→QF l s j=(j,false) from fun h h2=>by subst h;exact Qae l j hlt h2)
   generalize l[j]=r at hc0 HQT H1 H2 H3 H4
   cases hq:Q4f r with
   |true =>
    have HE:=Lib.hid (HJ.out.trans (H1.out hq))
    have HQT2:=fun W=>Lib.hid (HQT.out W)
    rw[hq] at HQT2
    clear H1 H2 H3 H4 HJ hq HQT
    generalize (Q1c l j).1=nx at HE HQD hg1 hg2
    generalize (Q1c l j).2=nb at HQD
    go_wp2_with fail
    refine (HQT2 _).out.mono ?_
    rintro e wx ⟨rfl,rfl⟩
    go_wp2_with fail
    refine HQD.out.mono ?_
    rintro e w2 ⟨rfl,hb2⟩
    have HB2:=Lib.hid (HB.out.trans (hb2.mono HB.out.size))
    clear hb2
    go_wp2
    go_roundw
    case rel=>exact⟨nx,by omega,rfl,HE.out,HB2.out⟩
    case measure=>simp[intOf];omega
   |false =>
    have HQT2:=fun W=>Lib.hid (HQT.out W)
    rw[hq] at HQT2
    clear HQD hg1 hg2 HQT
    by_cases h62:r=62
    ·have HE:=Lib.hid (HJ.out.trans (H2.out h62))
     subst h62
     clear H1 H2 H3 H4 HJ hq
     go_wp2_with fail
     refine (HQT2 _).out.mono ?_
     rintro e wx ⟨rfl,rfl⟩
     go_wp2
     go_ret2
     rw[HE.out]
     exact⟨rfl,HB.out⟩
    ·have h62b:(r == 62)=false:=by simpa using h62
     by_cases h60:r=60
     ·subst h60
      cases s with
      |true =>
       have HE:=Lib.hid (HJ.out.trans (H3.out rfl rfl))
       clear H1 H2 H3 H4 HJ hq h62
       go_wp2_with fail
       refine (HQT2 _).out.mono ?_
       rintro e wx ⟨rfl,rfl⟩
       go_wp2
       go_ret2
       rw[HE.out]
       exact⟨rfl,HB.out⟩
      |false =>
       have HE:=Lib.hid (HJ.out.trans (H4.out hq h62 (by simp)))
       clear H1 H2 H3 H4 HJ hq h62
       go_wp2_with fail
       refine (HQT2 _).out.mono ?_
       rintro e wx ⟨rfl,rfl⟩
       go_wp2
       go_roundw
       case rel=>exact⟨j+1,by omega,by go_num,HE.out,HB.out⟩
       case measure=>simp[intOf];omega
     ·have h60b:(r == 60)=false:=by simpa using h60
      have HE:=Lib.hid (HJ.out.trans (H4.out hq h62 (fun h=>h60 h.1)))
      clear H1 H2 H3 H4 HJ hq h62 h60
      go_wp2_with fail
      refine (HQT2 _).out.mono ?_
      rintro e wx ⟨rfl,rfl⟩
      go_wp2
      go_roundw
      case rel=>exact⟨j+1,by omega,by go_num,HE.out,HB.out⟩
      case measure=>simp[intOf];omega
  ·have hji:¬ (j:Int)<(l.length:Int):=by omega
   have HE:=Lib.hid (HJ.out.trans (Q5P l s j hlt))
   clear HJ
   go_wp2
   go_ret2
   rw[HE.out]
   exact⟨rfl,HB.out⟩
def QV (l:List Int)(kd k skip:Nat)(bs:List UInt8):Nat×Nat×Bool:=match Q3E l (min (k+skip) l.length) l.length bs with
 |none=>(kd,l.length,false)
 |some j=>(kd,j+bs.length,true)
def Q3o (l:List Int)(k:Nat):Nat×Bool:=if h:k<l.length then (if l[k]=62 then (k+1,true) else if l[k]=60 then (k,false) else Q3o l (k+1)) else (l.length,false)
termination_by l.length-k
def Q4d (l:List Int)(k:Nat):Nat×Nat×Bool:=(10,(Q3o l (k+2)).1,(Q3o l (k+2)).2)
def Q1W (l:List Int)(k:Nat):Nat×Nat×Bool :=
 if (QF l true (k+1)).2=false then (8,(QF l true (k+1)).1,false)
 else if l[(QF l true (k+1)).1-1]?=some 47 then (9,(QF l true (k+1)).1+1,true) else (8,(QF l true (k+1)).1+1,true)
theorem Qbe (l:List Int)(k:Nat)(h:k<l.length)(hq:l[k]=62):Q3o l k=(k+1,true):=by rw[Q3o,dif_pos h,if_pos hq]
theorem Qc1 (l:List Int)(k:Nat)(h:k<l.length)(hq:l[k]=60):Q3o l k=(k,false):=by rw[Q3o,dif_pos h,if_neg (by rw[hq];decide),if_pos hq]
theorem Q8G (l:List Int)(k:Nat)(h:k<l.length)(h1:l[k]≠62)(h2:l[k]≠60):Q3o l k=Q3o l (k+1):=by rw[Q3o,dif_pos h,if_neg h1,if_neg h2]
theorem Q7i (l:List Int)(k:Nat)(h:¬ k<l.length):Q3o l k=(l.length,false):=by rw[Q3o,dif_neg h]
theorem Q4V (S:Nat→Prop)(A:Option Addr)(n c:Nat)(l:List Int)(kd k skip:Nat)(s:ByteArray)(w:World)(hr:Rd w S 1 A n c (rc l))(hk:k≤l.length)(hsk:skip≤1000)(hl9:l.length≤1000000000)(hs9:s.size≤1000) :
  Calls prog 207 #[.slice A n c,.int .i64 kd,.int .i64 k,.int .i64 skip,.string s] w fun e w'=>e=.returned (Q1q (QV l kd k skip s.data.toList) k)∧Below w.heap.size w w':=by
 obtain rfl:=hr.rlen
 have hle:=hr.le
 have hmx:c≤9223372036854775807:=hr.max
 have HR:=Lib.hid hr
 clear hr
 have hm:∀ ts t W,(Builtin.min_ ts t #[.int .i64 ((k:Int)+(skip:Int)),.int .i64 (l.length:Int)]).run prog W=.ok (.int .i64 (min (k+skip) l.length:Nat)) W:=fun ts t W=>by
  rw[run_min_int2]
  congr 2
  split<;>omega
 have HF:=fun W (h:Below w.heap.size w W)=>Lib.hid (Qf9 S A l.length c l (min (k+skip) l.length) l.length s W (HR.out.below h) (by omega) (Nat.le_refl _) hl9 (by omega))
 have HT:Hid (QV l kd k skip s.data.toList=match Q3E l (min (k+skip) l.length) l.length s.data.toList with
  |none=>(kd,l.length,false)
  |some j=>(kd,j+s.data.toList.length,true)):=rfl
 have hfl:∀ j,Q3E l (min (k+skip) l.length) l.length s.data.toList=some j→j≤l.length:=fun j h=>by
  rw[Q3E,List.find?_range'_eq_some] at h
  have:=List.mem_range'_1.1 h.2.1
  omega
 have HSL:=Lib.hid (show s.data.toList.length=s.size by simp)
 generalize QV l kd k skip s.data.toList=t at HT ⊢
 generalize Q3E l (min (k+skip) l.length) l.length s.data.toList=q at HF HT hfl
 generalize min (k+skip) l.length=m2 at hm HF
 cases q with
 |none =>
  have HE:Hid (t=(kd,l.length,false)):=HT.out
  clear HT hfl
  go_enter func207,ntmps207
  go_wp2_with fail
  have HTH0:=Lib.hid (Q22 w #[.int .i64 0,.int .i64 0,.int .i64 0,.bool false] 185)
  have HB0:=Lib.hid (ba w (.cells #[.int .i64 0,.int .i64 0,.int .i64 0,.bool false] 185))
  have HSZ:Hid (w.heap.size<(w.alloc (.cells #[.int .i64 0,.int .i64 0,.int .i64 0,.bool false] 185)).heap.size):=by simp[Hid]
  generalize w.alloc (.cells #[.int .i64 0,.int .i64 0,.int .i64 0,.bool false] 185)=W0 at HTH0 HB0 HSZ
  refine (HF _ HB0.out).out.mono ?_
  rintro e w1 ⟨rfl,hb1⟩
  have HB1:=Lib.hid (HB0.out.trans (hb1.mono HB0.out.size))
  have HTH1:Hid (w1.there w.heap.size 0 4):=Qq HTH0.out hb1 HSZ.out
  clear hb1 HTH0 HSZ
  have HL9:=Lib.hid (Qm (P:=prog) (T:=185) w1 w.heap.size [.int .i64 kd,.int .i64 k,.int .i64 (l.length),.bool false] HTH1.out (by kernel_rfl) underlying185 rfl)
  have HB9:=Lib.hid (Qb HB1.out w.heap.size (Nat.le_refl _) [.int .i64 kd,.int .i64 k,.int .i64 (l.length),.bool false] 0)
  obtain⟨⟨z0,hz0⟩,hf0⟩:=Q2 HTH1.out 0 (by decide)
  obtain⟨⟨z1,hz1⟩,hf1⟩:=Q2 HTH1.out 1 (by decide)
  obtain⟨⟨z2,hz2⟩,hf2⟩:=Q2 HTH1.out 2 (by decide)
  obtain⟨⟨z3,hz3⟩,hf3⟩:=Q2 HTH1.out 3 (by decide)
  go_wp2
  refine bodyPost_ret (Qi rfl _ rfl HL9.out) rfl ?_
  rw[HE.out]
  exact⟨by simp[Q1q],HB9.out⟩
 |some j =>
  have HE:Hid (t=(kd,j+s.size,true)):=by rw[Hid,←HSL.out];exact HT.out
  have hfl:=hfl j rfl
  clear HT
  go_enter func207,ntmps207
  go_wp2_with fail
  have HTH0:=Lib.hid (Q22 w #[.int .i64 0,.int .i64 0,.int .i64 0,.bool false] 185)
  have HB0:=Lib.hid (ba w (.cells #[.int .i64 0,.int .i64 0,.int .i64 0,.bool false] 185))
  have HSZ:Hid (w.heap.size<(w.alloc (.cells #[.int .i64 0,.int .i64 0,.int .i64 0,.bool false] 185)).heap.size):=by simp[Hid]
  generalize w.alloc (.cells #[.int .i64 0,.int .i64 0,.int .i64 0,.bool false] 185)=W0 at HTH0 HB0 HSZ
  refine (HF _ HB0.out).out.mono ?_
  rintro e w1 ⟨rfl,hb1⟩
  have HB1:=Lib.hid (HB0.out.trans (hb1.mono HB0.out.size))
  have HTH1:Hid (w1.there w.heap.size 0 4):=Qq HTH0.out hb1 HSZ.out
  clear hb1 HTH0 HSZ
  have HL9:=Lib.hid (Qm (P:=prog) (T:=185) w1 w.heap.size [.int .i64 kd,.int .i64 k,.int .i64 ((j:Int)+(s.size:Int)),.bool true] HTH1.out (by kernel_rfl) underlying185 rfl)
  have HB9:=Lib.hid (Qb HB1.out w.heap.size (Nat.le_refl _) [.int .i64 kd,.int .i64 k,.int .i64 ((j:Int)+(s.size:Int)),.bool true] 0)
  obtain⟨⟨z0,hz0⟩,hf0⟩:=Q2 HTH1.out 0 (by decide)
  obtain⟨⟨z1,hz1⟩,hf1⟩:=Q2 HTH1.out 1 (by decide)
  obtain⟨⟨z2,hz2⟩,hf2⟩:=Q2 HTH1.out 2 (by decide)
  obtain⟨⟨z3,hz3⟩,hf3⟩:=Q2 HTH1.out 3 (by decide)
  go_wp2
  refine bodyPost_ret (Qi rfl _ rfl HL9.out) rfl ?_
  rw[HE.out]
  exact⟨by simp[Q1q],HB9.out⟩
theorem Qgj (S:Nat→Prop)(A:Option Addr)(n c:Nat)(l:List Int)(k:Nat)(w:World)(hr:Rd w S 1 A n c (rc l))(hk:k+2≤l.length)(hl9:l.length≤1000000000) :
  Calls prog 209 #[.slice A n c,.int .i64 k] w fun e w'=>e=.returned (Q1q (Q4d l k) k)∧Below w.heap.size w w':=by
 obtain rfl:=hr.rlen
 have hle:=hr.le
 have hmx:c≤9223372036854775807:=hr.max
 have HR:=Lib.hid hr
 clear hr
 obtain⟨t,ht⟩:∃ t,t=Q3o l (k+2):=⟨_,rfl⟩
 have HT:=Lib.hid ht
 have HTT:Hid (Q4d l k=(10,t.1,t.2)):=by rw[Hid,ht];rfl
 clear ht
 go_enter func209,ntmps209
 go_wp2
 have HTH0:=Lib.hid (Q22 w #[.int .i64 0,.int .i64 0,.int .i64 0,.bool false] 185)
 have HB0:=Lib.hid (ba w (.cells #[.int .i64 0,.int .i64 0,.int .i64 0,.bool false] 185))
 have HSZ:Hid (w.heap.size<(w.alloc (.cells #[.int .i64 0,.int .i64 0,.int .i64 0,.bool false] 185)).heap.size):=by simp[Hid]
 generalize w.alloc (.cells #[.int .i64 0,.int .i64 0,.int .i64 0,.bool false] 185)=W0 at HTH0 HB0 HSZ
 have HR0:=Lib.hid (HR.out.below HB0.out)
 have HTH0:Hid (W0.there w.heap.size 0 4):=HTH0.out
 go_loopw [5] (fun i wr=>wr=W0∧∃ j:Nat,k+2≤j∧j≤l.length∧i=.int .i64 j∧Hid (t=Q3o l j)) (fun i _=>l.length-(intOf i).toNat)
 case atStart=>exact⟨rfl,k+2,Nat.le_refl _,by omega,by go_num,HT.out⟩
 case round =>
  obtain⟨rfl,j,hj1,hj2,rfl,HJ⟩:=hrel
  by_cases hlt:j<l.length
  ·have hji:(j:Int)<(l.length:Int):=by omega
   obtain⟨b,o,rfl,hc0⟩:=HR0.out.rune hlt
   have H1:=Lib.hid (Qbe l j hlt)
   have H2:=Lib.hid (Qc1 l j hlt)
   have H3:=Lib.hid (Q8G l j hlt)
   generalize l[j]=r at hc0 H1 H2 H3
   by_cases h62:r=62
   ·have HE:Hid (Q4d l k=(10,j+1,true)):=by rw[Hid,HTT.out,HJ.out.trans (H1.out h62)]
    subst h62
    clear H1 H2 H3 HJ HTT
    have HL9:=Lib.hid (Qm (P:=prog) (T:=185) wr w.heap.size [.int .i64 10,.int .i64 k,.int .i64 ((j:Int)+1),.bool true] HTH0.out (by kernel_rfl) underlying185 rfl)
    have HB9:=Lib.hid (Qb HB0.out w.heap.size (Nat.le_refl _) [.int .i64 10,.int .i64 k,.int .i64 ((j:Int)+1),.bool true] 0)
    obtain⟨⟨z0,hz0⟩,hf0⟩:=Q2 HTH0.out 0 (by decide)
    obtain⟨⟨z1,hz1⟩,hf1⟩:=Q2 HTH0.out 1 (by decide)
    obtain⟨⟨z2,hz2⟩,hf2⟩:=Q2 HTH0.out 2 (by decide)
    obtain⟨⟨z3,hz3⟩,hf3⟩:=Q2 HTH0.out 3 (by decide)
    go_wp2
    refine bodyPost_ret (Qi rfl _ rfl HL9.out) rfl ?_
    rw[HE.out]
    exact⟨by simp[Q1q],HB9.out⟩
   ·have h62b:(r == 62)=false:=by simpa using h62
    by_cases h60:r=60
    ·have HE:Hid (Q4d l k=(10,j,false)):=by rw[Hid,HTT.out,HJ.out.trans (H2.out h60)]
     subst h60
     clear H1 H2 H3 HJ HTT h62
     have HL9:=Lib.hid (Qm (P:=prog) (T:=185) wr w.heap.size [.int .i64 10,.int .i64 k,.int .i64 (j),.bool false] HTH0.out (by kernel_rfl) underlying185 rfl)
     have HB9:=Lib.hid (Qb HB0.out w.heap.size (Nat.le_refl _) [.int .i64 10,.int .i64 k,.int .i64 (j),.bool false] 0)
     obtain⟨⟨z0,hz0⟩,hf0⟩:=Q2 HTH0.out 0 (by decide)
     obtain⟨⟨z1,hz1⟩,hf1⟩:=Q2 HTH0.out 1 (by decide)
     obtain⟨⟨z2,hz2⟩,hf2⟩:=Q2 HTH0.out 2 (by decide)
     obtain⟨⟨z3,hz3⟩,hf3⟩:=Q2 HTH0.out 3 (by decide)
     go_wp2
     refine bodyPost_ret (Qi rfl _ rfl HL9.out) rfl ?_
     rw[HE.out]
     exact⟨by simp[Q1q],HB9.out⟩
    ·have h60b:(r == 60)=false:=by simpa using h60
     have HN:=Lib.hid (HJ.out.trans (H3.out h62 h60))
     clear H1 H2 H3 HJ h62 h60
     go_wp2
     go_roundw
     case rel=>exact⟨trivial,j+1,by omega,by omega,by go_num,HN.out⟩
     case measure=>simp[intOf];omega
  ·have hji:¬ (j:Int)<(l.length:Int):=by omega
   have HE:Hid (Q4d l k=(10,l.length,false)):=by rw[Hid,HTT.out,HJ.out.trans (Q7i l j hlt)]
   clear HJ HTT
   have HL9:=Lib.hid (Qm (P:=prog) (T:=185) wr w.heap.size [.int .i64 10,.int .i64 k,.int .i64 (l.length),.bool false] HTH0.out (by kernel_rfl) underlying185 rfl)
   have HB9:=Lib.hid (Qb HB0.out w.heap.size (Nat.le_refl _) [.int .i64 10,.int .i64 k,.int .i64 (l.length),.bool false] 0)
   obtain⟨⟨z0,hz0⟩,hf0⟩:=Q2 HTH0.out 0 (by decide)
   obtain⟨⟨z1,hz1⟩,hf1⟩:=Q2 HTH0.out 1 (by decide)
   obtain⟨⟨z2,hz2⟩,hf2⟩:=Q2 HTH0.out 2 (by decide)
   obtain⟨⟨z3,hz3⟩,hf3⟩:=Q2 HTH0.out 3 (by decide)
   go_wp2
   refine bodyPost_ret (Qi rfl _ rfl HL9.out) rfl ?_
   rw[HE.out]
   exact⟨by simp[Q1q],HB9.out⟩
theorem Qdw (S:Nat→Prop)(A:Option Addr)(n c:Nat)(l:List Int)(k:Nat)(w:World)(hr:Rd w S 1 A n c (rc l))(hk:k<l.length)(hl9:l.length≤1000000000) :
  Calls prog 210 #[.slice A n c,.int .i64 k] w fun e w'=>e=.returned (Q1q (Q1W l k) k)∧Below w.heap.size w w':=by
 obtain rfl:=hr.rlen
 have hle:=hr.le
 have hmx:c≤9223372036854775807:=hr.max
 have HR:=Lib.hid hr
 have HAN:∀ W,Below w.heap.size w W→Hid (Calls prog 228 #[.slice A l.length c,.int .i64 ((k:Int)+1),.bool true] W fun e w'=>e=.returned (.tuple #[.int .i64 (QF l true (k+1)).1,.bool (QF l true (k+1)).2])∧Below W.heap.size W w'):=fun W h=>by
  rw[show ((k:Int)+1)=((k+1:Nat):Int) by omega]
  exact Q9V S A l.length c l (k+1) true W (HR.out.below h) (by omega) hl9
 obtain⟨ha1,ha2,ha3⟩:=Q3r l true l.length (k+1) (by omega) (by omega)
 have HT:Hid (Q1W l k=if (QF l true (k+1)).2=false then (8,(QF l true (k+1)).1,false)
  else if l[(QF l true (k+1)).1-1]?=some 47 then (9,(QF l true (k+1)).1+1,true) else (8,(QF l true (k+1)).1+1,true)):=rfl
 clear hr
 generalize (QF l true (k+1)).1=j at HAN HT ha1 ha2 ha3
 generalize (QF l true (k+1)).2=b at HAN HT ha3
 go_enter func210,ntmps210
 go_wp2_with fail
 have HTH0:=Lib.hid (Q22 w #[.int .i64 0,.int .i64 0,.int .i64 0,.bool false] 185)
 have HB0:=Lib.hid (ba w (.cells #[.int .i64 0,.int .i64 0,.int .i64 0,.bool false] 185))
 have HSZ:Hid (w.heap.size<(w.alloc (.cells #[.int .i64 0,.int .i64 0,.int .i64 0,.bool false] 185)).heap.size):=by simp[Hid]
 generalize w.alloc (.cells #[.int .i64 0,.int .i64 0,.int .i64 0,.bool false] 185)=W0 at HTH0 HB0 HSZ
 refine (HAN _ HB0.out).out.mono ?_
 rintro e w1 ⟨rfl,hb1⟩
 have HB1:=Lib.hid (HB0.out.trans (hb1.mono HB0.out.size))
 have HTH1:Hid (w1.there w.heap.size 0 4):=Qq HTH0.out hb1 HSZ.out
 clear hb1 HTH0 HSZ HB0 HAN
 cases b with
 |false =>
  have HE:Hid (Q1W l k=(8,j,false)):=HT.out
  clear HT ha3
  have HL9:=Lib.hid (Qm (P:=prog) (T:=185) w1 w.heap.size [.int .i64 8,.int .i64 k,.int .i64 (j),.bool false] HTH1.out (by kernel_rfl) underlying185 rfl)
  have HB9:=Lib.hid (Qb HB1.out w.heap.size (Nat.le_refl _) [.int .i64 8,.int .i64 k,.int .i64 (j),.bool false] 0)
  obtain⟨⟨z0,hz0⟩,hf0⟩:=Q2 HTH1.out 0 (by decide)
  obtain⟨⟨z1,hz1⟩,hf1⟩:=Q2 HTH1.out 1 (by decide)
  obtain⟨⟨z2,hz2⟩,hf2⟩:=Q2 HTH1.out 2 (by decide)
  obtain⟨⟨z3,hz3⟩,hf3⟩:=Q2 HTH1.out 3 (by decide)
  go_wp2
  refine bodyPost_ret (Qi rfl _ rfl HL9.out) rfl ?_
  rw[HE.out]
  exact⟨by simp[Q1q],HB9.out⟩
 |true =>
  have ha3:=ha3 rfl
  have hj1:j-1<l.length:=by omega
  have hj1i:(j:Int)-1<(l.length:Int):=by omega
  have hj0i:(0:Int)≤(j:Int)-1:=by omega
  obtain⟨b,o,rfl,hc0⟩:=(HR.out.below HB1.out).rune hj1
  have HT2:Hid (Q1W l k=if l[j-1]=47 then (9,j+1,true) else (8,j+1,true)):=by
   rw[Hid,HT.out,if_neg (by simp),List.getElem?_eq_getElem hj1]
   simp only[Option.some.injEq]
  generalize l[j-1]=r at hc0 HT2
  clear HT
  by_cases h47:r=47
  ·have HE:Hid (Q1W l k=(9,j+1,true)):=by rw[Hid,HT2.out,if_pos h47]
   subst h47
   clear HT2
   have HL9:=Lib.hid (Qm (P:=prog) (T:=185) w1 w.heap.size [.int .i64 9,.int .i64 k,.int .i64 ((j:Int)+1),.bool true] HTH1.out (by kernel_rfl) underlying185 rfl)
   have HB9:=Lib.hid (Qb HB1.out w.heap.size (Nat.le_refl _) [.int .i64 9,.int .i64 k,.int .i64 ((j:Int)+1),.bool true] 0)
   obtain⟨⟨z0,hz0⟩,hf0⟩:=Q2 HTH1.out 0 (by decide)
   obtain⟨⟨z1,hz1⟩,hf1⟩:=Q2 HTH1.out 1 (by decide)
   obtain⟨⟨z2,hz2⟩,hf2⟩:=Q2 HTH1.out 2 (by decide)
   obtain⟨⟨z3,hz3⟩,hf3⟩:=Q2 HTH1.out 3 (by decide)
   go_wp2
   refine bodyPost_ret (Qi rfl _ rfl HL9.out) rfl ?_
   rw[HE.out]
   exact⟨by simp[Q1q],HB9.out⟩
  ·have HE:Hid (Q1W l k=(8,j+1,true)):=by rw[Hid,HT2.out,if_neg h47]
   have h47b:(r == 47)=false:=by simpa using h47
   clear HT2 h47
   have HL9:=Lib.hid (Qm (P:=prog) (T:=185) w1 w.heap.size [.int .i64 8,.int .i64 k,.int .i64 ((j:Int)+1),.bool true] HTH1.out (by kernel_rfl) underlying185 rfl)
   have HB9:=Lib.hid (Qb HB1.out w.heap.size (Nat.le_refl _) [.int .i64 8,.int .i64 k,.int .i64 ((j:Int)+1),.bool true] 0)
   obtain⟨⟨z0,hz0⟩,hf0⟩:=Q2 HTH1.out 0 (by decide)
   obtain⟨⟨z1,hz1⟩,hf1⟩:=Q2 HTH1.out 1 (by decide)
   obtain⟨⟨z2,hz2⟩,hf2⟩:=Q2 HTH1.out 2 (by decide)
   obtain⟨⟨z3,hz3⟩,hf3⟩:=Q2 HTH1.out 3 (by decide)
   go_wp2
   refine bodyPost_ret (Qi rfl _ rfl HL9.out) rfl ?_
   rw[HE.out]
   exact⟨by simp[Q1q],HB9.out⟩
theorem Qhn (l:List Int)(k t:Nat)(bs:List UInt8)(j:Nat)(h:Q3E l k t bs=some j):k≤j∧j<t+1-bs.length:=by
 rw[Q3E,List.find?_range'_eq_some] at h
 have:=List.mem_range'_1.1 h.2.1
 omega
theorem Q3d (l:List Int)(kd k skip:Nat)(bs:List UInt8)(hk:k<l.length)(hb:0<bs.length):k<(QV l kd k skip bs).2.1∧(QV l kd k skip bs).2.1≤l.length:=by
 unfold QV
 cases h:Q3E l (min (k+skip) l.length) l.length bs with
 |none=>simp only;omega
 |some j =>
  have:=Qhn l _ _ bs j h
  simp only;omega
def Q3p (l:List Int)(k:Nat):Nat×Bool :=
 if Qk l k [60,33,45,45]=true then ((QV l 4 k 4 [45,45,62]).2.1,(QV l 4 k 4 [45,45,62]).2.2)
 else if Qk l k [60,63]=true then ((QV l 5 k 2 [63,62]).2.1,(QV l 5 k 2 [63,62]).2.2)
 else if l.getD k 0=60 then (min ((QF l false k).1+1) l.length,(QF l false k).2)
 else (k+1,true)
theorem Q4P (l:List Int)(k:Nat)(hk:k<l.length):k<(Q3p l k).1∧(Q3p l k).1≤l.length:=by
 unfold Q3p
 split
 ·exact Q3d l 4 k 4 _ hk (by decide)
 ·split
  ·exact Q3d l 5 k 2 _ hk (by decide)
  ·split
   ·have:=Q3r l false l.length k (by omega) (by omega)
    simp only;omega
   ·simp only;omega
def Q3O (l:List Int)(k:Nat)(ok:Bool):Nat×Bool :=
 if h:k<l.length∧ok=true then (if l[k]'h.1=93 then (k+1,true) else Q3O l (Q3p l k).1 (Q3p l k).2) else (l.length,false)
termination_by l.length-k
decreasing_by
 have:=Q4P l k h.1;omega
theorem Qa3 (l:List Int)(k:Nat)(h:k<l.length)(hq:l[k]=93):Q3O l k true=(k+1,true):=by rw[Q3O,dif_pos ⟨h,rfl⟩,if_pos hq]
theorem Q8v (l:List Int)(k:Nat)(h:k<l.length)(hq:l[k]≠93):Q3O l k true=Q3O l (Q3p l k).1 (Q3p l k).2:=by
 conv=>lhs;rw[Q3O]
 rw[dif_pos ⟨h,rfl⟩,if_neg hq]
theorem Q5p (l:List Int)(k:Nat)(ok:Bool)(h:¬ (k<l.length∧ok=true)):Q3O l k ok=(l.length,false):=by rw[Q3O,dif_neg h]
theorem Qbr (l:List Int):∀ (n k:Nat) (ok:Bool),l.length-k≤n→k≤l.length→(k<(Q3O l k ok).1∨(Q3O l k ok).1=l.length)∧(Q3O l k ok).1≤l.length:=by
 intro n
 induction n with
 |zero =>
  intro k ok h hk
  rw[Q5p l k ok (by omega)]
  simp
 |succ n ih =>
  intro k ok h hk
  by_cases hlt:k<l.length∧ok=true
  ·obtain⟨hlt,rfl⟩:=hlt
   by_cases hq:l[k]=93
   ·rw[Qa3 l k hlt hq];simp only;omega
   ·have:=Q4P l k hlt
    have:=ih (Q3p l k).1 (Q3p l k).2 (by omega) (by omega)
    rw[Q8v l k hlt hq];omega
  ·rw[Q5p l k ok hlt];simp
def Q66 (l:List Int)(k:Nat):Nat×Bool:=Q3O l (k+1) true
theorem Qb7 (S:Nat→Prop)(A:Option Addr)(n c:Nat)(l:List Int)(k:Nat)(w:World)(hr:Rd w S 1 A n c (rc l))(hk:k<l.length)(hl9:l.length≤1000000000) :
  Calls prog 234 #[.slice A n c,.int .i64 k] w fun e w'=>e=.returned (.tuple #[.int .i64 (Q3p l k).1,.bool (Q3p l k).2])∧Below w.heap.size w w':=by
 obtain rfl:=hr.rlen
 have hle:=hr.le
 have hmx:c≤9223372036854775807:=hr.max
 have HR:=Lib.hid hr
 have HS1:∀ W,Below w.heap.size w W→Hid (Calls prog 185 #[.slice A l.length c,.int .i64 k,.string ⟨#[60,33,45,45]⟩] W fun e w'=>e=.returned (.bool (Qk l k [60,33,45,45]))∧Below W.heap.size W w') :=
  fun W h=>Q1p S A l.length c l k ⟨#[60,33,45,45]⟩ W (HR.out.below h) (by omega) hl9 (by decide)
 have HS2:∀ W,Below w.heap.size w W→Hid (Calls prog 185 #[.slice A l.length c,.int .i64 k,.string ⟨#[60,63]⟩] W fun e w'=>e=.returned (.bool (Qk l k [60,63]))∧Below W.heap.size W w') :=
  fun W h=>Q1p S A l.length c l k ⟨#[60,63]⟩ W (HR.out.below h) (by omega) hl9 (by decide)
 have HU1:∀ W,Below w.heap.size w W→Hid (Calls prog 207 #[.slice A l.length c,.int .i64 4,.int .i64 k,.int .i64 4,.string ⟨#[45,45,62]⟩] W fun e w'=>e=.returned (Q1q (QV l 4 k 4 [45,45,62]) k)∧Below W.heap.size W w') :=
  fun W h=>Q4V S A l.length c l 4 k 4 ⟨#[45,45,62]⟩ W (HR.out.below h) (by omega) (by decide) hl9 (by decide)
 have HU2:∀ W,Below w.heap.size w W→Hid (Calls prog 207 #[.slice A l.length c,.int .i64 5,.int .i64 k,.int .i64 2,.string ⟨#[63,62]⟩] W fun e w'=>e=.returned (Q1q (QV l 5 k 2 [63,62]) k)∧Below W.heap.size W w') :=
  fun W h=>Q4V S A l.length c l 5 k 2 ⟨#[63,62]⟩ W (HR.out.below h) (by omega) (by decide) hl9 (by decide)
 have HAN:=fun W (h:Below w.heap.size w W)=>Lib.hid (Q9V S A l.length c l k false W (HR.out.below h) (by omega) hl9)
 obtain⟨ha1,ha2,_⟩:=Q3r l false l.length k (by omega) (by omega)
 have HT:Hid (Q3p l k=if Qk l k [60,33,45,45]=true then ((QV l 4 k 4 [45,45,62]).2.1,(QV l 4 k 4 [45,45,62]).2.2)
  else if Qk l k [60,63]=true then ((QV l 5 k 2 [63,62]).2.1,(QV l 5 k 2 [63,62]).2.2)
  else if l[k]=60 then (min ((QF l false k).1+1) l.length,(QF l false k).2) else (k+1,true)):=by rw[Hid,Q3p,Q6D hk]
 have HCK:=fun W (h:Below w.heap.size w W)=>Lib.hid ((HR.out.below h).rune hk)
 clear hr
 have hki:(k:Int)<(l.length:Int):=by omega
 generalize Q3p l k=t at HT ⊢
 generalize Qk l k [60,33,45,45]=s1 at HS1 HT
 generalize Qk l k [60,63]=s2 at HS2 HT
 generalize QV l 4 k 4 [45,45,62]=u1 at HU1 HT
 generalize QV l 5 k 2 [63,62]=u2 at HU2 HT
 generalize (QF l false k).1=aj at HAN HT ha1 ha2
 generalize (QF l false k).2=ab at HAN HT
 generalize l[k]=r at HCK HT
 obtain⟨k1,t1,w1b⟩:=u1
 obtain⟨k2,t2,w2b⟩:=u2
 have HU1:∀ W,Below w.heap.size w W→Hid (Calls prog 207 #[.slice A l.length c,.int .i64 4,.int .i64 k,.int .i64 4,.string ⟨#[45,45,62]⟩] W fun e w'=>e=.returned (.agg #[.int .i64 k1,.int .i64 k,.int .i64 t1,.bool w1b])∧Below W.heap.size W w'):=HU1
 have HU2:∀ W,Below w.heap.size w W→Hid (Calls prog 207 #[.slice A l.length c,.int .i64 5,.int .i64 k,.int .i64 2,.string ⟨#[63,62]⟩] W fun e w'=>e=.returned (.agg #[.int .i64 k2,.int .i64 k,.int .i64 t2,.bool w2b])∧Below W.heap.size W w'):=HU2
 have hm:∀ ts t W,(Builtin.min_ ts t #[.int .i64 ((aj:Int)+1),.int .i64 (l.length:Int)]).run prog W=.ok (.int .i64 (min (aj+1) l.length:Nat)) W:=fun ts t W=>by
  rw[run_min_int2]
  congr 2
  split<;>omega
 go_enter func234,ntmps234
 go_wp2_with fail
 refine (HS1 _ (Below.refl _ _)).out.mono ?_
 rintro e v1 ⟨rfl,hb1⟩
 have HB1:=Lib.hid hb1
 clear hb1 HS1
 cases s1 with
 |true =>
  have HE:Hid (t=(t1,w1b)):=HT.out
  clear HT
  go_wp2_with fail
  refine (HU1 _ HB1.out).out.mono ?_
  rintro e v2 ⟨rfl,hb2⟩
  have HB2:=Lib.hid (bt HB1.out hb2)
  clear hb2
  go_wp2
  go_quiet (fail)
  go_wp2
  go_ret2
  rw[HE.out]
  exact⟨rfl,Q2d (bt HB2.out (ba _ _)) _⟩
 |false =>
  go_wp2_with fail
  refine (HS2 _ HB1.out).out.mono ?_
  rintro e v2 ⟨rfl,hb2⟩
  have HB2:=Lib.hid (bt HB1.out hb2)
  clear hb2
  cases s2 with
  |true =>
   have HE:Hid (t=(t2,w2b)):=HT.out
   clear HT
   go_wp2_with fail
   refine (HU2 _ HB2.out).out.mono ?_
   rintro e v3 ⟨rfl,hb3⟩
   have HB3:=Lib.hid (bt HB2.out hb3)
   clear hb3
   go_wp2
   go_quiet (fail)
   go_wp2
   go_ret2
   rw[HE.out]
   exact⟨rfl,Q2d (bt HB3.out (ba _ _)) _⟩
  |false =>
   obtain⟨b,o,rfl,hc0⟩:=(HCK _ HB2.out).out
   by_cases h60:r=60
   ·have HE:Hid (t=(min (aj+1) l.length,ab)):=by rw[Hid,HT.out];simp[h60]
    subst h60
    clear HT HCK
    generalize min (aj+1) l.length=m2 at hm HE
    go_wp2_with fail
    refine (HAN _ HB2.out).out.mono ?_
    rintro e v3 ⟨rfl,hb3⟩
    have HB3:=Lib.hid (bt HB2.out hb3)
    clear hb3
    go_wp2
    go_ret2
    rw[HE.out]
    exact⟨rfl,HB3.out⟩
   ·have HE:Hid (t=(k+1,true)):=by rw[Hid,HT.out];simp[h60]
    have h60b:(r == 60)=false:=by simpa using h60
    clear HT HCK h60
    go_wp2
    go_ret2
    rw[HE.out]
    exact⟨by simp,HB2.out⟩
theorem QcS (S:Nat→Prop)(A:Option Addr)(n c:Nat)(l:List Int)(k:Nat)(w:World)(hr:Rd w S 1 A n c (rc l))(hk:k<l.length)(hl9:l.length≤1000000000) :
  Calls prog 227 #[.slice A n c,.int .i64 k] w fun e w'=>e=.returned (.tuple #[.int .i64 (Q66 l k).1,.bool (Q66 l k).2])∧Below w.heap.size w w':=by
 obtain rfl:=hr.rlen
 have hle:=hr.le
 have hmx:c≤9223372036854775807:=hr.max
 have HR:=Lib.hid hr
 clear hr
 have HT:Hid (Q66 l k=Q3O l (k+1) true):=rfl
 generalize Q66 l k=t at HT ⊢
 go_enter func227,ntmps227
 go_wp2
 go_loopw [1,6] (fun i o wr=>∃ (j:Nat) (ok:Bool),j≤l.length∧i=.int .i64 j∧o=.bool ok∧Hid (t=Q3O l j ok)∧Hid (Below w.heap.size w wr)) (fun i _ _=>l.length-(intOf i).toNat)
 case atStart=>exact⟨k+1,true,by omega,by go_num,rfl,HT.out,Below.refl _ _⟩
 case round =>
  obtain⟨j,ok,hj,rfl,rfl,HJ,HB⟩:=hrel
  by_cases hlt:j<l.length
  ·have hji:(j:Int)<(l.length:Int):=by omega
   cases ok with
   |true =>
    obtain⟨b,o,rfl,hc0⟩:=(HR.out.below HB.out).rune hlt
    have H1:=Lib.hid (Qa3 l j hlt)
    have H2:=Lib.hid (Q8v l j hlt)
    have HDC:=Lib.hid (Qb7 S _ l.length c l j _ (HR.out.below HB.out) hlt hl9)
    obtain⟨hd1,hd2⟩:=Q4P l j hlt
    generalize l[j]=r at hc0 H1 H2
    generalize (Q3p l j).1=dj at H2 HDC hd1 hd2
    generalize (Q3p l j).2=db at H2 HDC
    by_cases h93:r=93
    ·have HE:=Lib.hid (HJ.out.trans (H1.out h93))
     subst h93
     clear H1 H2 HJ HDC
     go_wp2
     go_ret2
     rw[HE.out]
     exact⟨by simp,HB.out⟩
    ·have HE:=Lib.hid (HJ.out.trans (H2.out h93))
     have h93b:(r == 93)=false:=by simpa using h93
     clear H1 H2 HJ h93
     go_wp2_with fail
     refine HDC.out.mono ?_
     rintro e v2 ⟨rfl,hb2⟩
     have HB2:=Lib.hid (HB.out.trans (hb2.mono HB.out.size))
     clear hb2
     go_wp2
     go_roundw
     case rel=>exact⟨dj,db,by omega,rfl,rfl,HE.out,HB2.out⟩
     case measure=>simp[intOf];omega
   |false =>
    have HE:=Lib.hid (HJ.out.trans (Q5p l j false (by simp)))
    clear HJ
    go_wp2
    go_ret2
    rw[HE.out]
    exact⟨rfl,HB.out⟩
  ·have hji:¬ (j:Int)<(l.length:Int):=by omega
   have HE:=Lib.hid (HJ.out.trans (Q5p l j ok (fun h=>hlt h.1)))
   clear HJ
   go_wp2
   go_ret2
   rw[HE.out]
   exact⟨rfl,HB.out⟩
theorem Q6b (l:List Int)(k:Nat)(hk:k<l.length):k<(Q66 l k).1∧(Q66 l k).1≤l.length:=by
 have:=Qbr l l.length (k+1) true (by omega) (by omega)
 unfold Q66;omega
def Q2o (l:List Int)(k:Nat)(ok:Bool):Nat×Bool :=
 if h:k<l.length∧ok=true then
  (if l[k]'h.1=62 then (k+1,true) else if Q4f (l[k]'h.1) then Q2o l (Q1c l k).1 (Q1c l k).2 else if l[k]'h.1=91 then Q2o l (Q66 l k).1 (Q66 l k).2 else Q2o l (k+1) true)
 else (l.length,false)
termination_by l.length-k
decreasing_by
 ·have:=Q30 l k h.1;omega
 ·have:=Q6b l k h.1;omega
 ·omega
theorem Q5v (l:List Int)(k:Nat)(ok:Bool)(h:¬ (k<l.length∧ok=true)):Q2o l k ok=(l.length,false):=by rw[Q2o,dif_neg h]
theorem Qa6 (l:List Int)(k:Nat)(h:k<l.length)(hq:l[k]=62):Q2o l k true=(k+1,true):=by rw[Q2o,dif_pos ⟨h,rfl⟩,if_pos hq]
theorem Qag (l:List Int)(k:Nat)(h:k<l.length)(h1:l[k]≠62)(hq:Q4f l[k]=true):Q2o l k true=Q2o l (Q1c l k).1 (Q1c l k).2:=by
 conv=>lhs;rw[Q2o]
 rw[dif_pos ⟨h,rfl⟩,if_neg h1,if_pos hq]
theorem Q9R (l:List Int)(k:Nat)(h:k<l.length)(hq:l[k]=91):Q2o l k true=Q2o l (Q66 l k).1 (Q66 l k).2:=by
 conv=>lhs;rw[Q2o]
 rw[dif_pos ⟨h,rfl⟩,if_neg (by rw[hq];decide),if_neg (by rw[hq];decide),if_pos hq]
theorem Q81 (l:List Int)(k:Nat)(h:k<l.length)(h1:l[k]≠62)(h2:Q4f l[k]=false)(h3:l[k]≠91):Q2o l k true=Q2o l (k+1) true:=by
 conv=>lhs;rw[Q2o]
 rw[dif_pos ⟨h,rfl⟩,if_neg h1,if_neg (by simp[h2]),if_neg h3]
def Q49 (l:List Int)(k:Nat):Nat×Nat×Bool:=(7,(Q2o l (k+9) true).1,(Q2o l (k+9) true).2)
def Q26 (l:List Int)(k:Nat):Nat×Nat×Bool :=
 if Qk l k [60,33,45,45]=true then QV l 4 k 4 [45,45,62]
 else if Qk l k [60,33,91,67,68,65,84,65,91]=true then QV l 6 k 9 [93,93,62]
 else if Qk l k [60,63]=true then QV l 5 k 2 [63,62]
 else if Qk l k [60,33,68,79,67,84,89,80,69]=true then Q49 l k
 else if Qk l k [60,47]=true then Q4d l k
 else if 0<Q10 l (k+1) then Q1W l k
 else (11,k+1,false)
def Q28 (r:Int):Bool:=r != 60&&(r != 38&&r != -1)
def Qv (l:List Int)(k:Nat):Nat×Nat×Bool :=
 if l.getD k 0=60 then Q26 l k else if l.getD k 0=38 then Q3m l k else if l.getD k 0=-1 then (11,k+1,false)
 else (1,k+((l.drop k).takeWhile Q28).length,true)
theorem Qax (S:Nat→Prop)(A:Option Addr)(n c:Nat)(l:List Int)(k:Nat)(w:World)(hr:Rd w S 1 A n c (rc l))(hk:k+9≤l.length)(hl9:l.length≤1000000000) :
  Calls prog 208 #[.slice A n c,.int .i64 k] w fun e w'=>e=.returned (Q1q (Q49 l k) k)∧Below w.heap.size w w':=by
 obtain rfl:=hr.rlen
 have hle:=hr.le
 have hmx:c≤9223372036854775807:=hr.max
 have HR:=Lib.hid hr
 clear hr
 obtain⟨t,ht⟩:∃ t,t=Q2o l (k+9) true:=⟨_,rfl⟩
 have HT:=Lib.hid ht
 have HTT:Hid (Q49 l k=(7,t.1,t.2)):=by rw[Hid,ht];rfl
 clear ht
 go_enter func208,ntmps208
 go_wp2
 have HTH0:=Lib.hid (Q22 w #[.int .i64 0,.int .i64 0,.int .i64 0,.bool false] 185)
 have HB0:=Lib.hid (ba w (.cells #[.int .i64 0,.int .i64 0,.int .i64 0,.bool false] 185))
 have HSZ:Hid (w.heap.size<(w.alloc (.cells #[.int .i64 0,.int .i64 0,.int .i64 0,.bool false] 185)).heap.size):=by simp[Hid]
 generalize w.alloc (.cells #[.int .i64 0,.int .i64 0,.int .i64 0,.bool false] 185)=W0 at HTH0 HB0 HSZ
 have HTH0:Hid (W0.there w.heap.size 0 4):=HTH0.out
 go_loopw [5,6] (fun o i wr=>∃ (j:Nat) (ok:Bool),j≤l.length∧i=.int .i64 j∧o=.bool ok∧Hid (t=Q2o l j ok)∧Hid (Below w.heap.size w wr)∧Hid (wr.there w.heap.size 0 4)∧Hid (w.heap.size<wr.heap.size)) (fun _ i _=>l.length-(intOf i).toNat)
 case atStart=>exact⟨k+9,true,by omega,by go_num,rfl,HT.out,HB0.out,HTH0.out,HSZ.out⟩
 case round =>
  obtain⟨j,ok,hj,rfl,rfl,HJ,HB,HTH,HLT⟩:=hrel
  by_cases hlt:j<l.length
  ·have hji:(j:Int)<(l.length:Int):=by omega
   cases ok with
   |true =>
    obtain⟨b,o,rfl,hc0⟩:=(HR.out.below HB.out).rune hlt
    have H1:=Lib.hid (Qa6 l j hlt)
    have H2:=Lib.hid (Qag l j hlt)
    have H3:=Lib.hid (Q9R l j hlt)
    have H4:=Lib.hid (Q81 l j hlt)
    have HQT:=Lib.hid (Q8u l[j])
    have HQD:=Lib.hid (Q90 S _ l.length c l j _ (HR.out.below HB.out) hlt hl9)
    have HSB:=Lib.hid (QcS S _ l.length c l j _ (HR.out.below HB.out) hlt hl9)
    obtain⟨hg1,hg2⟩:=Q30 l j hlt
    obtain⟨hs1,hs2⟩:=Q6b l j hlt
    generalize (Q1c l j).1=qj at HQD H2 hg1 hg2
    generalize (Q1c l j).2=qb at HQD H2
    generalize (Q66 l j).1=sj at HSB H3 hs1 hs2
    generalize (Q66 l j).2=sb at HSB H3
    generalize l[j]=r at hc0 HQT H1 H2 H3 H4
    by_cases h62:r=62
    ·have HE:Hid (Q49 l k=(7,j+1,true)):=by rw[Hid,HTT.out,HJ.out.trans (H1.out h62)]
     subst h62
     clear H1 H2 H3 H4 HJ HTT HQD HSB HQT
     have HL9:=Lib.hid (Qm (P:=prog) (T:=185) wr w.heap.size [.int .i64 7,.int .i64 k,.int .i64 ((j:Int)+1),.bool true] HTH.out (by kernel_rfl) underlying185 rfl)
     have HB9:=Lib.hid (Qb HB.out w.heap.size (Nat.le_refl _) [.int .i64 7,.int .i64 k,.int .i64 ((j:Int)+1),.bool true] 0)
     obtain⟨⟨z0,hz0⟩,hf0⟩:=Q2 HTH.out 0 (by decide)
     obtain⟨⟨z1,hz1⟩,hf1⟩:=Q2 HTH.out 1 (by decide)
     obtain⟨⟨z2,hz2⟩,hf2⟩:=Q2 HTH.out 2 (by decide)
     obtain⟨⟨z3,hz3⟩,hf3⟩:=Q2 HTH.out 3 (by decide)
     go_wp2
     refine bodyPost_ret (Qi rfl _ rfl HL9.out) rfl ?_
     rw[HE.out]
     exact⟨by simp[Q1q],HB9.out⟩
    ·have h62b:(r == 62)=false:=by simpa using h62
     have HQT2:=fun W=>Lib.hid (HQT.out W)
     cases hq:Q4f r with
     |true =>
      have HN:=Lib.hid (HJ.out.trans (H2.out h62 hq))
      rw[hq] at HQT2
      clear H1 H2 H3 H4 HJ HSB HQT h62 hq
      go_wp2_with fail
      refine (HQT2 _).out.mono ?_
      rintro e wx ⟨rfl,rfl⟩
      go_wp2_with fail
      refine HQD.out.mono ?_
      rintro e v2 ⟨rfl,hb2⟩
      have HB2:=Lib.hid (HB.out.trans (hb2.mono HB.out.size))
      have HTH2:=Lib.hid (Qq HTH.out hb2 HLT.out)
      have HLT2:=Lib.hid (Nat.lt_of_lt_of_le HLT.out hb2.size)
      clear hb2
      go_wp2
      go_roundw
      case rel=>exact⟨qj,qb,by omega,rfl,rfl,HN.out,HB2.out,HTH2.out,HLT2.out⟩
      case measure=>simp[intOf];omega
     |false =>
      rw[hq] at HQT2
      by_cases h91:r=91
      ·have HN:=Lib.hid (HJ.out.trans (H3.out h91))
       subst h91
       clear H1 H2 H3 H4 HJ HQD HQT h62 hq
       go_wp2_with fail
       refine (HQT2 _).out.mono ?_
       rintro e wx ⟨rfl,rfl⟩
       go_wp2_with fail
       refine HSB.out.mono ?_
       rintro e v2 ⟨rfl,hb2⟩
       have HB2:=Lib.hid (HB.out.trans (hb2.mono HB.out.size))
       have HTH2:=Lib.hid (Qq HTH.out hb2 HLT.out)
       have HLT2:=Lib.hid (Nat.lt_of_lt_of_le HLT.out hb2.size)
       clear hb2
       go_wp2
       go_roundw
       case rel=>exact⟨sj,sb,by omega,rfl,rfl,HN.out,HB2.out,HTH2.out,HLT2.out⟩
       case measure=>simp[intOf];omega
      ·have HN:=Lib.hid (HJ.out.trans (H4.out h62 hq h91))
       have h91b:(r == 91)=false:=by simpa using h91
       clear H1 H2 H3 H4 HJ HQD HSB HQT h62 hq h91
       go_wp2_with fail
       refine (HQT2 _).out.mono ?_
       rintro e wx ⟨rfl,rfl⟩
       go_wp2
       go_roundw
       case rel=>exact⟨j+1,true,by omega,by go_num,rfl,HN.out,HB.out,HTH.out,HLT.out⟩
       case measure=>simp[intOf];omega
   |false =>
    have HE:Hid (Q49 l k=(7,l.length,false)):=by rw[Hid,HTT.out,HJ.out.trans (Q5v l j false (by simp))]
    clear HJ HTT
    have HL9:=Lib.hid (Qm (P:=prog) (T:=185) wr w.heap.size [.int .i64 7,.int .i64 k,.int .i64 (l.length),.bool false] HTH.out (by kernel_rfl) underlying185 rfl)
    have HB9:=Lib.hid (Qb HB.out w.heap.size (Nat.le_refl _) [.int .i64 7,.int .i64 k,.int .i64 (l.length),.bool false] 0)
    obtain⟨⟨z0,hz0⟩,hf0⟩:=Q2 HTH.out 0 (by decide)
    obtain⟨⟨z1,hz1⟩,hf1⟩:=Q2 HTH.out 1 (by decide)
    obtain⟨⟨z2,hz2⟩,hf2⟩:=Q2 HTH.out 2 (by decide)
    obtain⟨⟨z3,hz3⟩,hf3⟩:=Q2 HTH.out 3 (by decide)
    go_wp2
    refine bodyPost_ret (Qi rfl _ rfl HL9.out) rfl ?_
    rw[HE.out]
    exact⟨by simp[Q1q],HB9.out⟩
  ·have hji:¬ (j:Int)<(l.length:Int):=by omega
   have HE:Hid (Q49 l k=(7,l.length,false)):=by rw[Hid,HTT.out,HJ.out.trans (Q5v l j ok (fun h=>hlt h.1))]
   clear HJ HTT
   have HL9:=Lib.hid (Qm (P:=prog) (T:=185) wr w.heap.size [.int .i64 7,.int .i64 k,.int .i64 (l.length),.bool false] HTH.out (by kernel_rfl) underlying185 rfl)
   have HB9:=Lib.hid (Qb HB.out w.heap.size (Nat.le_refl _) [.int .i64 7,.int .i64 k,.int .i64 (l.length),.bool false] 0)
   obtain⟨⟨z0,hz0⟩,hf0⟩:=Q2 HTH.out 0 (by decide)
   obtain⟨⟨z1,hz1⟩,hf1⟩:=Q2 HTH.out 1 (by decide)
   obtain⟨⟨z2,hz2⟩,hf2⟩:=Q2 HTH.out 2 (by decide)
   obtain⟨⟨z3,hz3⟩,hf3⟩:=Q2 HTH.out 3 (by decide)
   go_wp2
   refine bodyPost_ret (Qi rfl _ rfl HL9.out) rfl ?_
   rw[HE.out]
   exact⟨by simp[Q1q],HB9.out⟩
theorem QbM (S:Nat→Prop)(A:Option Addr)(n c:Nat)(l:List Int)(k:Nat)(w:World)(hr:Rd w S 1 A n c (rc l))(h38:l[k]?=some 38)(hl9:l.length≤1000000000) :
  Calls prog 133 #[.slice A n c,.int .i64 k] w fun e w'=>e=.returned (.tuple #[Q1q (Q3m l k) k,.bool true])∧Below w.heap.size w w':=by
 obtain rfl:=hr.rlen
 have hle:=hr.le
 have hmx:c≤9223372036854775807:=hr.max
 obtain⟨hk,h38⟩:=List.getElem?_eq_some_iff.1 h38
 obtain⟨b,o,rfl,hc0⟩:=hr.rune hk
 rw[h38] at hc0
 have hca:=fun ob=>Q5q (ba w ob) hc0
 have hki:¬ (k:Int) ≥ (l.length:Int):=by omega
 have HRF:=fun W (h:Below w.heap.size w W)=>Lib.hid (Qj5 S _ _ c l k W (hr.below h) hk hl9)
 clear hr h38
 generalize Q3m l k=t at HRF ⊢
 obtain⟨kd,to,wh⟩:=t
 have HRF:∀ W,Below w.heap.size w W→Hid (Calls prog 175 #[.slice (some ⟨b,o,none⟩) l.length c,.int .i64 k] W fun e w'=>e=.returned (.agg #[.int .i64 kd,.int .i64 k,.int .i64 to,.bool wh])∧Below W.heap.size W w'):=HRF
 go_enter func133,ntmps133
 go_wp2_with fail
 have HTH0:=Lib.hid (Q22 w #[.int .i64 0,.int .i64 0,.int .i64 0,.bool false] 185)
 have HB0:=Lib.hid (ba w (.cells #[.int .i64 0,.int .i64 0,.int .i64 0,.bool false] 185))
 have HSZ:Hid (w.heap.size<(w.alloc (.cells #[.int .i64 0,.int .i64 0,.int .i64 0,.bool false] 185)).heap.size):=by simp[Hid]
 generalize w.alloc (.cells #[.int .i64 0,.int .i64 0,.int .i64 0,.bool false] 185)=W0 at HTH0 HB0 HSZ
 refine (HRF _ HB0.out).out.mono ?_
 rintro e w1 ⟨rfl,hb1⟩
 have HB1:=Lib.hid (HB0.out.trans (hb1.mono HB0.out.size))
 have hth:=Qq HTH0.out hb1 HSZ.out
 have HL9:=Lib.hid (Qm (P:=prog) (T:=185) w1 w.heap.size [.int .i64 kd,.int .i64 k,.int .i64 to,.bool wh] hth (by kernel_rfl) underlying185 rfl)
 have HB9:=Lib.hid (Qb HB1.out w.heap.size (Nat.le_refl _) [.int .i64 kd,.int .i64 k,.int .i64 to,.bool wh] 0)
 obtain⟨⟨z0,hz0⟩,hf0⟩:=Q2 hth 0 (by decide)
 obtain⟨⟨z1,hz1⟩,hf1⟩:=Q2 hth 1 (by decide)
 obtain⟨⟨z2,hz2⟩,hf2⟩:=Q2 hth 2 (by decide)
 obtain⟨⟨z3,hz3⟩,hf3⟩:=Q2 hth 3 (by decide)
 clear hth hb1 HTH0 HRF
 go_wp2
 refine bodyPost_ret (Q38 rfl _ rfl HL9.out) rfl ?_
 exact⟨rfl,HB9.out⟩
theorem Qhk {P:Program}{T:TypeId}{d:TypeDesc}(w:World)(vs:List Value)(hi:(P.info? T).map (·.size)=some vs.length)(hu:P.underlying T=some d)(hd:d.isRow=true) :
  (loadVar T ⟨w.heap.size,0,none⟩).run P (w.alloc (.cells vs.toArray T))=.ok (.agg vs.toArray) (w.alloc (.cells vs.toArray T)) :=
 run_loadVar_mid (P:=P) _ w.heap.size 0 T vs d (fun j v hv=>by
  rw[World.cell?_alloc_at _ _ _ _ rfl,Nat.zero_add]
  simpa using hv) hu hd hi
theorem Q2I (l:List Int)(k:Nat)(bs:List UInt8)(hk:k≤l.length)(h:Qk l k bs=true):k+bs.length≤l.length:=by
 by_cases hn:l.length<k+bs.length
 ·rw[Q6S l k bs hn hk] at h;cases h
 ·omega
theorem Qdj (S:Nat→Prop)(A:Option Addr)(n c:Nat)(l:List Int)(k:Nat)(w:World)(hr:Rd w S 1 A n c (rc l))(hk:k<l.length)(hl9:l.length≤1000000000) :
  Calls prog 174 #[.slice A n c,.int .i64 k] w fun e w'=>e=.returned (Q1q (Q26 l k) k)∧Below w.heap.size w w':=by
 obtain rfl:=hr.rlen
 have hle:=hr.le
 have hmx:c≤9223372036854775807:=hr.max
 have HR:=Lib.hid hr
 have HSa:∀ W,Below w.heap.size w W→Hid (Calls prog 185 #[.slice A l.length c,.int .i64 k,.string ⟨#[60,33,45,45]⟩] W fun e w'=>e=.returned (.bool (Qk l k [60,33,45,45]))∧Below W.heap.size W w') :=
  fun W h=>Q1p S A l.length c l k ⟨#[60,33,45,45]⟩ W (HR.out.below h) (by omega) hl9 (by decide)
 have HSb:∀ W,Below w.heap.size w W→Hid (Calls prog 185 #[.slice A l.length c,.int .i64 k,.string ⟨#[60,33,91,67,68,65,84,65,91]⟩] W fun e w'=>e=.returned (.bool (Qk l k [60,33,91,67,68,65,84,65,91]))∧Below W.heap.size W w') :=
  fun W h=>Q1p S A l.length c l k ⟨#[60,33,91,67,68,65,84,65,91]⟩ W (HR.out.below h) (by omega) hl9 (by decide)
 have HSc:∀ W,Below w.heap.size w W→Hid (Calls prog 185 #[.slice A l.length c,.int .i64 k,.string ⟨#[60,63]⟩] W fun e w'=>e=.returned (.bool (Qk l k [60,63]))∧Below W.heap.size W w') :=
  fun W h=>Q1p S A l.length c l k ⟨#[60,63]⟩ W (HR.out.below h) (by omega) hl9 (by decide)
 have HSd:∀ W,Below w.heap.size w W→Hid (Calls prog 185 #[.slice A l.length c,.int .i64 k,.string ⟨#[60,33,68,79,67,84,89,80,69]⟩] W fun e w'=>e=.returned (.bool (Qk l k [60,33,68,79,67,84,89,80,69]))∧Below W.heap.size W w') :=
  fun W h=>Q1p S A l.length c l k ⟨#[60,33,68,79,67,84,89,80,69]⟩ W (HR.out.below h) (by omega) hl9 (by decide)
 have HSe:∀ W,Below w.heap.size w W→Hid (Calls prog 185 #[.slice A l.length c,.int .i64 k,.string ⟨#[60,47]⟩] W fun e w'=>e=.returned (.bool (Qk l k [60,47]))∧Below W.heap.size W w') :=
  fun W h=>Q1p S A l.length c l k ⟨#[60,47]⟩ W (HR.out.below h) (by omega) hl9 (by decide)
 have HUa:∀ W,Below w.heap.size w W→Hid (Calls prog 207 #[.slice A l.length c,.int .i64 4,.int .i64 k,.int .i64 4,.string ⟨#[45,45,62]⟩] W fun e w'=>e=.returned (.agg #[.int .i64 (QV l 4 k 4 [45,45,62]).1,.int .i64 k,.int .i64 (QV l 4 k 4 [45,45,62]).2.1,.bool (QV l 4 k 4 [45,45,62]).2.2])∧Below W.heap.size W w') :=
  fun W h=>Q4V S A l.length c l 4 k 4 ⟨#[45,45,62]⟩ W (HR.out.below h) (by omega) (by decide) hl9 (by decide)
 have HUb:∀ W,Below w.heap.size w W→Hid (Calls prog 207 #[.slice A l.length c,.int .i64 6,.int .i64 k,.int .i64 9,.string ⟨#[93,93,62]⟩] W fun e w'=>e=.returned (.agg #[.int .i64 (QV l 6 k 9 [93,93,62]).1,.int .i64 k,.int .i64 (QV l 6 k 9 [93,93,62]).2.1,.bool (QV l 6 k 9 [93,93,62]).2.2])∧Below W.heap.size W w') :=
  fun W h=>Q4V S A l.length c l 6 k 9 ⟨#[93,93,62]⟩ W (HR.out.below h) (by omega) (by decide) hl9 (by decide)
 have HUc:∀ W,Below w.heap.size w W→Hid (Calls prog 207 #[.slice A l.length c,.int .i64 5,.int .i64 k,.int .i64 2,.string ⟨#[63,62]⟩] W fun e w'=>e=.returned (.agg #[.int .i64 (QV l 5 k 2 [63,62]).1,.int .i64 k,.int .i64 (QV l 5 k 2 [63,62]).2.1,.bool (QV l 5 k 2 [63,62]).2.2])∧Below W.heap.size W w') :=
  fun W h=>Q4V S A l.length c l 5 k 2 ⟨#[63,62]⟩ W (HR.out.below h) (by omega) (by decide) hl9 (by decide)
 have HUd:Qk l k [60,33,68,79,67,84,89,80,69]=true→∀ W,Below w.heap.size w W→Hid (Calls prog 208 #[.slice A l.length c,.int .i64 k] W fun e w'=>e=.returned (.agg #[.int .i64 (Q49 l k).1,.int .i64 k,.int .i64 (Q49 l k).2.1,.bool (Q49 l k).2.2])∧Below W.heap.size W w') :=
  fun hs W h=>Qax S A l.length c l k W (HR.out.below h) (by have:=Q2I l k _ (by omega) hs;simpa using this) hl9
 have HUe:Qk l k [60,47]=true→∀ W,Below w.heap.size w W→Hid (Calls prog 209 #[.slice A l.length c,.int .i64 k] W fun e w'=>e=.returned (.agg #[.int .i64 (Q4d l k).1,.int .i64 k,.int .i64 (Q4d l k).2.1,.bool (Q4d l k).2.2])∧Below W.heap.size W w') :=
  fun hs W h=>Qgj S A l.length c l k W (HR.out.below h) (by have:=Q2I l k _ (by omega) hs;simpa using this) hl9
 have HUf:∀ W,Below w.heap.size w W→Hid (Calls prog 210 #[.slice A l.length c,.int .i64 k] W fun e w'=>e=.returned (.agg #[.int .i64 (Q1W l k).1,.int .i64 k,.int .i64 (Q1W l k).2.1,.bool (Q1W l k).2.2])∧Below W.heap.size W w') :=
  fun W h=>Qdw S A l.length c l k W (HR.out.below h) hk hl9
 have HLD:∀ W,Below w.heap.size w W→Hid (Calls prog 183 #[.slice A l.length c,.int .i64 ((k:Int)+1)] W fun e w'=>e=.returned (.int .i64 (Q10 l (k+1)))∧Below W.heap.size W w'):=fun W h=>by
  rw[show ((k:Int)+1)=((k+1:Nat):Int) by omega]
  exact Q5z S A l.length c l (k+1) W (HR.out.below h) (by omega)
 have HT:Hid (Q26 l k=if Qk l k [60,33,45,45]=true then QV l 4 k 4 [45,45,62]
  else if Qk l k [60,33,91,67,68,65,84,65,91]=true then QV l 6 k 9 [93,93,62]
  else if Qk l k [60,63]=true then QV l 5 k 2 [63,62]
  else if Qk l k [60,33,68,79,67,84,89,80,69]=true then Q49 l k
  else if Qk l k [60,47]=true then Q4d l k
  else if 0<Q10 l (k+1) then Q1W l k
  else (11,k+1,false)):=rfl
 clear hr
 generalize Q26 l k=t at HT ⊢
 generalize Qk l k [60,33,45,45]=sa at HSa HT
 generalize Qk l k [60,33,91,67,68,65,84,65,91]=sb at HSb HT
 generalize Qk l k [60,63]=sc at HSc HT
 generalize Qk l k [60,33,68,79,67,84,89,80,69]=sd at HSd HT HUd
 generalize Qk l k [60,47]=se at HSe HT HUe
 generalize QV l 4 k 4 [45,45,62]=ua at HUa HT
 generalize QV l 6 k 9 [93,93,62]=ub at HUb HT
 generalize QV l 5 k 2 [63,62]=uc at HUc HT
 generalize Q49 l k=ud at HUd HT
 generalize Q4d l k=ue at HUe HT
 generalize Q1W l k=uf at HUf HT
 generalize Q10 l (k+1)=ld at HLD HT
 obtain⟨kka,tta,wwa⟩:=ua
 obtain⟨kkb,ttb,wwb⟩:=ub
 obtain⟨kkc,ttc,wwc⟩:=uc
 obtain⟨kkd,ttd,wwd⟩:=ud
 obtain⟨kke,tte,wwe⟩:=ue
 obtain⟨kkf,ttf,wwf⟩:=uf
 go_enter func174,ntmps174
 go_wp2_with fail
 have HTH0:=Lib.hid (Q22 w #[.int .i64 0,.int .i64 0,.int .i64 0,.bool false] 185)
 have HB0:=Lib.hid (ba w (.cells #[.int .i64 0,.int .i64 0,.int .i64 0,.bool false] 185))
 have HSZ:Hid (w.heap.size<(w.alloc (.cells #[.int .i64 0,.int .i64 0,.int .i64 0,.bool false] 185)).heap.size):=by simp[Hid]
 generalize w.alloc (.cells #[.int .i64 0,.int .i64 0,.int .i64 0,.bool false] 185)=W0 at HTH0 HB0 HSZ
 have HTH0:Hid (W0.there w.heap.size 0 4):=HTH0.out
 refine (HSa _ HB0.out).out.mono ?_
 rintro e va ⟨rfl,hb⟩
 have HBa:=Lib.hid (HB0.out.trans (hb.mono HB0.out.size))
 have HTHa:Hid (va.there w.heap.size 0 4):=Qq HTH0.out hb HSZ.out
 have HLTa:Hid (w.heap.size<va.heap.size):=Nat.lt_of_lt_of_le HSZ.out hb.size
 clear hb HSa
 cases sa with
 |true =>
  have HE:Hid (t=(kka,tta,wwa)):=HT.out
  clear HT
  go_wp2_with fail
  refine (HUa _ HBa.out).out.mono ?_
  rintro e xa ⟨rfl,hb⟩
  have HBx:=Lib.hid (HBa.out.trans (hb.mono HBa.out.size))
  have HTHx:Hid (xa.there w.heap.size 0 4):=Qq HTHa.out hb HLTa.out
  clear hb
  have HL9:=Lib.hid (Qm (P:=prog) (T:=185) xa w.heap.size [.int .i64 kka,.int .i64 k,.int .i64 (tta),.bool wwa] HTHx.out (by kernel_rfl) underlying185 rfl)
  have HB9:=Lib.hid (Qb HBx.out w.heap.size (Nat.le_refl _) [.int .i64 kka,.int .i64 k,.int .i64 (tta),.bool wwa] 0)
  obtain⟨⟨z0,hz0⟩,hf0⟩:=Q2 HTHx.out 0 (by decide)
  obtain⟨⟨z1,hz1⟩,hf1⟩:=Q2 HTHx.out 1 (by decide)
  obtain⟨⟨z2,hz2⟩,hf2⟩:=Q2 HTHx.out 2 (by decide)
  obtain⟨⟨z3,hz3⟩,hf3⟩:=Q2 HTHx.out 3 (by decide)
  go_wp2
  refine bodyPost_ret (Qi rfl _ rfl HL9.out) rfl ?_
  rw[HE.out]
  exact⟨rfl,HB9.out⟩
 |false =>
  go_wp2_with fail
  refine (HSb _ HBa.out).out.mono ?_
  rintro e vb ⟨rfl,hb⟩
  have HBb:=Lib.hid (HBa.out.trans (hb.mono HBa.out.size))
  have HTHb:Hid (vb.there w.heap.size 0 4):=Qq HTHa.out hb HLTa.out
  have HLTb:Hid (w.heap.size<vb.heap.size):=Nat.lt_of_lt_of_le HLTa.out hb.size
  clear hb HSb
  cases sb with
  |true =>
   have HE:Hid (t=(kkb,ttb,wwb)):=HT.out
   clear HT
   go_wp2_with fail
   refine (HUb _ HBb.out).out.mono ?_
   rintro e xb ⟨rfl,hb⟩
   have HBx:=Lib.hid (HBb.out.trans (hb.mono HBb.out.size))
   have HTHx:Hid (xb.there w.heap.size 0 4):=Qq HTHb.out hb HLTb.out
   clear hb
   have HL9:=Lib.hid (Qm (P:=prog) (T:=185) xb w.heap.size [.int .i64 kkb,.int .i64 k,.int .i64 (ttb),.bool wwb] HTHx.out (by kernel_rfl) underlying185 rfl)
   have HB9:=Lib.hid (Qb HBx.out w.heap.size (Nat.le_refl _) [.int .i64 kkb,.int .i64 k,.int .i64 (ttb),.bool wwb] 0)
   obtain⟨⟨z0,hz0⟩,hf0⟩:=Q2 HTHx.out 0 (by decide)
   obtain⟨⟨z1,hz1⟩,hf1⟩:=Q2 HTHx.out 1 (by decide)
   obtain⟨⟨z2,hz2⟩,hf2⟩:=Q2 HTHx.out 2 (by decide)
   obtain⟨⟨z3,hz3⟩,hf3⟩:=Q2 HTHx.out 3 (by decide)
   go_wp2
   refine bodyPost_ret (Qi rfl _ rfl HL9.out) rfl ?_
   rw[HE.out]
   exact⟨rfl,HB9.out⟩
  |false =>
   go_wp2_with fail
   refine (HSc _ HBb.out).out.mono ?_
   rintro e vc ⟨rfl,hb⟩
   have HBc:=Lib.hid (HBb.out.trans (hb.mono HBb.out.size))
   have HTHc:Hid (vc.there w.heap.size 0 4):=Qq HTHb.out hb HLTb.out
   have HLTc:Hid (w.heap.size<vc.heap.size):=Nat.lt_of_lt_of_le HLTb.out hb.size
   clear hb HSc
   cases sc with
   |true =>
    have HE:Hid (t=(kkc,ttc,wwc)):=HT.out
    clear HT
    go_wp2_with fail
    refine (HUc _ HBc.out).out.mono ?_
    rintro e xc ⟨rfl,hb⟩
    have HBx:=Lib.hid (HBc.out.trans (hb.mono HBc.out.size))
    have HTHx:Hid (xc.there w.heap.size 0 4):=Qq HTHc.out hb HLTc.out
    clear hb
    have HL9:=Lib.hid (Qm (P:=prog) (T:=185) xc w.heap.size [.int .i64 kkc,.int .i64 k,.int .i64 (ttc),.bool wwc] HTHx.out (by kernel_rfl) underlying185 rfl)
    have HB9:=Lib.hid (Qb HBx.out w.heap.size (Nat.le_refl _) [.int .i64 kkc,.int .i64 k,.int .i64 (ttc),.bool wwc] 0)
    obtain⟨⟨z0,hz0⟩,hf0⟩:=Q2 HTHx.out 0 (by decide)
    obtain⟨⟨z1,hz1⟩,hf1⟩:=Q2 HTHx.out 1 (by decide)
    obtain⟨⟨z2,hz2⟩,hf2⟩:=Q2 HTHx.out 2 (by decide)
    obtain⟨⟨z3,hz3⟩,hf3⟩:=Q2 HTHx.out 3 (by decide)
    go_wp2
    refine bodyPost_ret (Qi rfl _ rfl HL9.out) rfl ?_
    rw[HE.out]
    exact⟨rfl,HB9.out⟩
   |false =>
    go_wp2_with fail
    refine (HSd _ HBc.out).out.mono ?_
    rintro e vd ⟨rfl,hb⟩
    have HBd:=Lib.hid (HBc.out.trans (hb.mono HBc.out.size))
    have HTHd:Hid (vd.there w.heap.size 0 4):=Qq HTHc.out hb HLTc.out
    have HLTd:Hid (w.heap.size<vd.heap.size):=Nat.lt_of_lt_of_le HLTc.out hb.size
    clear hb HSd
    cases sd with
    |true =>
     have HE:Hid (t=(kkd,ttd,wwd)):=HT.out
     clear HT
     go_wp2_with fail
     refine (HUd (by first|trivial|rfl) _ HBd.out).out.mono ?_
     rintro e xd ⟨rfl,hb⟩
     have HBx:=Lib.hid (HBd.out.trans (hb.mono HBd.out.size))
     have HTHx:Hid (xd.there w.heap.size 0 4):=Qq HTHd.out hb HLTd.out
     clear hb
     have HL9:=Lib.hid (Qm (P:=prog) (T:=185) xd w.heap.size [.int .i64 kkd,.int .i64 k,.int .i64 (ttd),.bool wwd] HTHx.out (by kernel_rfl) underlying185 rfl)
     have HB9:=Lib.hid (Qb HBx.out w.heap.size (Nat.le_refl _) [.int .i64 kkd,.int .i64 k,.int .i64 (ttd),.bool wwd] 0)
     obtain⟨⟨z0,hz0⟩,hf0⟩:=Q2 HTHx.out 0 (by decide)
     obtain⟨⟨z1,hz1⟩,hf1⟩:=Q2 HTHx.out 1 (by decide)
     obtain⟨⟨z2,hz2⟩,hf2⟩:=Q2 HTHx.out 2 (by decide)
     obtain⟨⟨z3,hz3⟩,hf3⟩:=Q2 HTHx.out 3 (by decide)
     go_wp2
     refine bodyPost_ret (Qi rfl _ rfl HL9.out) rfl ?_
     rw[HE.out]
     exact⟨rfl,HB9.out⟩
    |false =>
     go_wp2_with fail
     refine (HSe _ HBd.out).out.mono ?_
     rintro e ve ⟨rfl,hb⟩
     have HBe:=Lib.hid (HBd.out.trans (hb.mono HBd.out.size))
     have HTHe:Hid (ve.there w.heap.size 0 4):=Qq HTHd.out hb HLTd.out
     have HLTe:Hid (w.heap.size<ve.heap.size):=Nat.lt_of_lt_of_le HLTd.out hb.size
     clear hb HSe
     cases se with
     |true =>
      have HE:Hid (t=(kke,tte,wwe)):=HT.out
      clear HT
      go_wp2_with fail
      refine (HUe (by first|trivial|rfl) _ HBe.out).out.mono ?_
      rintro e xe ⟨rfl,hb⟩
      have HBx:=Lib.hid (HBe.out.trans (hb.mono HBe.out.size))
      have HTHx:Hid (xe.there w.heap.size 0 4):=Qq HTHe.out hb HLTe.out
      clear hb
      have HL9:=Lib.hid (Qm (P:=prog) (T:=185) xe w.heap.size [.int .i64 kke,.int .i64 k,.int .i64 (tte),.bool wwe] HTHx.out (by kernel_rfl) underlying185 rfl)
      have HB9:=Lib.hid (Qb HBx.out w.heap.size (Nat.le_refl _) [.int .i64 kke,.int .i64 k,.int .i64 (tte),.bool wwe] 0)
      obtain⟨⟨z0,hz0⟩,hf0⟩:=Q2 HTHx.out 0 (by decide)
      obtain⟨⟨z1,hz1⟩,hf1⟩:=Q2 HTHx.out 1 (by decide)
      obtain⟨⟨z2,hz2⟩,hf2⟩:=Q2 HTHx.out 2 (by decide)
      obtain⟨⟨z3,hz3⟩,hf3⟩:=Q2 HTHx.out 3 (by decide)
      go_wp2
      refine bodyPost_ret (Qi rfl _ rfl HL9.out) rfl ?_
      rw[HE.out]
      exact⟨rfl,HB9.out⟩
     |false =>
      go_wp2_with fail
      refine (HLD _ HBe.out).out.mono ?_
      rintro e vf ⟨rfl,hb⟩
      have HBf:=Lib.hid (HBe.out.trans (hb.mono HBe.out.size))
      have HTHf:Hid (vf.there w.heap.size 0 4):=Qq HTHe.out hb HLTe.out
      have HLTf:Hid (w.heap.size<vf.heap.size):=Nat.lt_of_lt_of_le HLTe.out hb.size
      clear hb HLD
      by_cases hl0:0<ld
      ·have hl0i:(ld:Int) > 0:=by omega
       have HE:Hid (t=(kkf,ttf,wwf)):=by rw[Hid,HT.out];simp[hl0]
       clear HT
       go_wp2_with fail
       refine (HUf _ HBf.out).out.mono ?_
       rintro e xf ⟨rfl,hb⟩
       have HBx:=Lib.hid (HBf.out.trans (hb.mono HBf.out.size))
       have HTHx:Hid (xf.there w.heap.size 0 4):=Qq HTHf.out hb HLTf.out
       clear hb
       have HL9:=Lib.hid (Qm (P:=prog) (T:=185) xf w.heap.size [.int .i64 kkf,.int .i64 k,.int .i64 (ttf),.bool wwf] HTHx.out (by kernel_rfl) underlying185 rfl)
       have HB9:=Lib.hid (Qb HBx.out w.heap.size (Nat.le_refl _) [.int .i64 kkf,.int .i64 k,.int .i64 (ttf),.bool wwf] 0)
       obtain⟨⟨z0,hz0⟩,hf0⟩:=Q2 HTHx.out 0 (by decide)
       obtain⟨⟨z1,hz1⟩,hf1⟩:=Q2 HTHx.out 1 (by decide)
       obtain⟨⟨z2,hz2⟩,hf2⟩:=Q2 HTHx.out 2 (by decide)
       obtain⟨⟨z3,hz3⟩,hf3⟩:=Q2 HTHx.out 3 (by decide)
       go_wp2
       refine bodyPost_ret (Qi rfl _ rfl HL9.out) rfl ?_
       rw[HE.out]
       exact⟨rfl,HB9.out⟩
      ·have hl0i:¬ (ld:Int) > 0:=by omega
       have HE:Hid (t=(11,k+1,false)):=by rw[Hid,HT.out];simp[hl0]
       clear HT
       have HL9:=Lib.hid (Qm (P:=prog) (T:=185) vf w.heap.size [.int .i64 11,.int .i64 k,.int .i64 ((k:Int)+1),.bool false] HTHf.out (by kernel_rfl) underlying185 rfl)
       have HB9:=Lib.hid (Qb HBf.out w.heap.size (Nat.le_refl _) [.int .i64 11,.int .i64 k,.int .i64 ((k:Int)+1),.bool false] 0)
       obtain⟨⟨z0,hz0⟩,hf0⟩:=Q2 HTHf.out 0 (by decide)
       obtain⟨⟨z1,hz1⟩,hf1⟩:=Q2 HTHf.out 1 (by decide)
       obtain⟨⟨z2,hz2⟩,hf2⟩:=Q2 HTHf.out 2 (by decide)
       obtain⟨⟨z3,hz3⟩,hf3⟩:=Q2 HTHf.out 3 (by decide)
       go_wp2
       refine bodyPost_ret (Qi rfl _ rfl HL9.out) rfl ?_
       rw[HE.out]
       exact⟨by simp[Q1q],HB9.out⟩
theorem Qd5 (r:Int)(w:World):Calls prog 177 #[.int .i32 r] w fun e w'=>e=.returned (.bool (Q28 r))∧w=w':=by
 by_cases h1:r=60
 ·subst h1
  go_enter func177,ntmps177
  go_wp2
  go_ret
  exact⟨rfl,rfl⟩
 ·have h1b:(r != 60)=true:=by simpa using h1
  by_cases h2:r=38
  ·subst h2
   clear h1
   go_enter func177,ntmps177
   go_wp2
   go_ret
   exact⟨rfl,rfl⟩
  ·have h2b:(r != 38)=true:=by simpa using h2
   have HE:Hid (Q28 r=(r != -1)):=by rw[Hid,Q28,h1b,h2b,Bool.true_and,Bool.true_and]
   clear h1 h2
   go_enter func177,ntmps177
   go_wp2
   go_ret
   exact⟨QW HE.out.symm,rfl⟩
theorem QeQ (w:World):Q69 prog 177 #[] Q28 w:=fun W r _=>(Qd5 r W).mono fun _ _ ⟨h1,h2⟩=>⟨h1,h2 ▸ Below.refl _ _⟩
theorem QeF:∀ args w,(callFunc 177 args).run prog w=.ok (.enter 177 args) w:=enters_of func177 (by kernel_rfl) rfl
theorem QeI (S:Nat→Prop)(A:Option Addr)(n c:Nat)(l:List Int)(k:Nat)(w:World)(hr:Rd w S 1 A n c (rc l))(hk:k<l.length)(hl9:l.length≤1000000000) :
  Calls prog 133 #[.slice A n c,.int .i64 k] w fun e w'=>e=.returned (.tuple #[Q1q (Qv l k) k,.bool true])∧Below w.heap.size w w':=by
 obtain rfl:=hr.rlen
 have hle:=hr.le
 have hmx:c≤9223372036854775807:=hr.max
 by_cases h38:l[k]=38
 ·have HE:Qv l k=Q3m l k:=by rw[Qv,Q6D hk,h38];rfl
  rw[HE]
  exact QbM S A _ c l k w hr (by rw[List.getElem?_eq_getElem hk,h38]) hl9
 ·obtain⟨b,o,rfl,hc0⟩:=hr.rune hk
  have hca:=fun ob=>Q5q (ba w ob) hc0
  have hki:¬ (k:Int) ≥ (l.length:Int):=by omega
  have hkj:(k:Int)<(l.length:Int):=by omega
  have HMK:=fun W (h:Below w.heap.size w W)=>Lib.hid (Qdj S _ _ c l k W (hr.below h) hk hl9)
  have HMK:∀ W,Below w.heap.size w W→Hid (Calls prog 174 #[.slice (some ⟨b,o,none⟩) l.length c,.int .i64 k] W fun e w'=>e=.returned (.agg #[.int .i64 (Q26 l k).1,.int .i64 k,.int .i64 (Q26 l k).2.1,.bool (Q26 l k).2.2])∧Below W.heap.size W w'):=HMK
  have HRN:=fun W (h:Below w.heap.size w W)=>(Q6t S _ l.length c l k _ #[] Q28 W QeF (hr.below h) (QeQ W))
  have hrn:Q4I Q28 l k=((l.drop k).takeWhile Q28).length:=by rw[Q4I,if_neg (by omega),Int.toNat_natCast]
  rw[hrn] at HRN
  have HRN:=fun W h=>Lib.hid (HRN W h)
  have hrl:=(List.takeWhile_sublist Q28 (l:=l.drop k)).length_le
  rw[List.length_drop] at hrl
  have HT:Hid (Qv l k=if l[k]=60 then Q26 l k else if l[k]=38 then Q3m l k else if l[k]=-1 then (11,k+1,false) else (1,k+((l.drop k).takeWhile Q28).length,true)):=by rw[Hid,Qv,Q6D hk]
  clear hr hrn
  generalize Qv l k=t at HT ⊢
  generalize Q26 l k=mk at HMK HT
  generalize ((l.drop k).takeWhile Q28).length=rn at HRN HT hrl
  obtain⟨mka,mkb,mkc⟩:=mk
  generalize l[k]=r at hc0 hca HT h38
  have h38b:(r == 38)=false:=by simpa using h38
  by_cases h60:r=60
  ·have HE:Hid (t=(mka,mkb,mkc)):=by rw[Hid,HT.out,if_pos h60]
   subst h60
   clear HT h38 hc0 HRN
   go_enter func133,ntmps133
   go_wp2_with fail
   have HTH0:=Lib.hid (Q22 w #[.int .i64 0,.int .i64 0,.int .i64 0,.bool false] 185)
   have HB0:=Lib.hid (ba w (.cells #[.int .i64 0,.int .i64 0,.int .i64 0,.bool false] 185))
   have HSZ:Hid (w.heap.size<(w.alloc (.cells #[.int .i64 0,.int .i64 0,.int .i64 0,.bool false] 185)).heap.size):=by simp[Hid]
   generalize w.alloc (.cells #[.int .i64 0,.int .i64 0,.int .i64 0,.bool false] 185)=W0 at HTH0 HB0 HSZ
   refine (HMK _ HB0.out).out.mono ?_
   rintro e w1 ⟨rfl,hb1⟩
   have HB1:=Lib.hid (HB0.out.trans (hb1.mono HB0.out.size))
   have HTH1:Hid (w1.there w.heap.size 0 4):=Qq HTH0.out hb1 HSZ.out
   clear hb1 HTH0 HSZ
   have HL9:=Lib.hid (Qm (P:=prog) (T:=185) w1 w.heap.size [.int .i64 mka,.int .i64 k,.int .i64 (mkb),.bool mkc] HTH1.out (by kernel_rfl) underlying185 rfl)
   have HB9:=Lib.hid (Qb HB1.out w.heap.size (Nat.le_refl _) [.int .i64 mka,.int .i64 k,.int .i64 (mkb),.bool mkc] 0)
   obtain⟨⟨z0,hz0⟩,hf0⟩:=Q2 HTH1.out 0 (by decide)
   obtain⟨⟨z1,hz1⟩,hf1⟩:=Q2 HTH1.out 1 (by decide)
   obtain⟨⟨z2,hz2⟩,hf2⟩:=Q2 HTH1.out 2 (by decide)
   obtain⟨⟨z3,hz3⟩,hf3⟩:=Q2 HTH1.out 3 (by decide)
   go_wp2
   refine bodyPost_ret (Q38 rfl _ rfl HL9.out) rfl ?_
   rw[HE.out]
   exact⟨rfl,HB9.out⟩
  ·have h60b:(r == 60)=false:=by simpa using h60
   by_cases h1:r=-1
   ·have HE:Hid (t=(11,k+1,false)):=by rw[Hid,HT.out,if_neg h60,if_neg h38,if_pos h1]
    subst h1
    clear HT h38 h60 hc0 HRN HMK
    have HL9:=Lib.hid (Qhk (P:=prog) (T:=185) w [.int .i64 11,.int .i64 k,.int .i64 ((k:Int)+1),.bool false] (by kernel_rfl) underlying185 rfl)
    have HB9:=Lib.hid (ba w (.cells #[.int .i64 11,.int .i64 k,.int .i64 ((k:Int)+1),.bool false] 185))
    go_enter func133,ntmps133
    go_wp2
    refine bodyPost_ret (Q38 rfl _ rfl HL9.out) rfl ?_
    rw[HE.out]
    exact⟨by simp[Q1q],HB9.out⟩
   ·have h1b:(r == -1)=false:=by simpa using h1
    have HE:Hid (t=(1,k+rn,true)):=by rw[Hid,HT.out,if_neg h60,if_neg h38,if_neg h1]
    clear HT h38 h60 h1 hc0 HMK
    go_enter func133,ntmps133
    go_wp2_with fail
    have HTH0:=Lib.hid (Q22 w #[.int .i64 0,.int .i64 0,.int .i64 0,.bool false] 185)
    have HB0:=Lib.hid (ba w (.cells #[.int .i64 0,.int .i64 0,.int .i64 0,.bool false] 185))
    have HSZ:Hid (w.heap.size<(w.alloc (.cells #[.int .i64 0,.int .i64 0,.int .i64 0,.bool false] 185)).heap.size):=by simp[Hid]
    generalize w.alloc (.cells #[.int .i64 0,.int .i64 0,.int .i64 0,.bool false] 185)=W0 at HTH0 HB0 HSZ
    refine (HRN _ HB0.out).out.mono ?_
    rintro e w1 ⟨rfl,hb1⟩
    have HB1:=Lib.hid (HB0.out.trans (hb1.mono HB0.out.size))
    have HTH1:Hid (w1.there w.heap.size 0 4):=Qq HTH0.out hb1 HSZ.out
    clear hb1 HTH0 HSZ
    have HL9:=Lib.hid (Qm (P:=prog) (T:=185) w1 w.heap.size [.int .i64 1,.int .i64 k,.int .i64 ((k:Int)+(rn:Int)),.bool true] HTH1.out (by kernel_rfl) underlying185 rfl)
    have HB9:=Lib.hid (Qb HB1.out w.heap.size (Nat.le_refl _) [.int .i64 1,.int .i64 k,.int .i64 ((k:Int)+(rn:Int)),.bool true] 0)
    obtain⟨⟨z0,hz0⟩,hf0⟩:=Q2 HTH1.out 0 (by decide)
    obtain⟨⟨z1,hz1⟩,hf1⟩:=Q2 HTH1.out 1 (by decide)
    obtain⟨⟨z2,hz2⟩,hf2⟩:=Q2 HTH1.out 2 (by decide)
    obtain⟨⟨z3,hz3⟩,hf3⟩:=Q2 HTH1.out 3 (by decide)
    go_wp2
    refine bodyPost_ret (Q38 rfl _ rfl HL9.out) rfl ?_
    rw[HE.out]
    exact⟨by simp[Q1q],HB9.out⟩
end Go.Proofs.YtibemhahkicbpaaGreat
namespace Go.Proofs.YtibemhahkicbpaaGreat
open Go.RowKit Go.Lib
theorem Qcr (l:List Int):∀ (n k:Nat),l.length-k≤n→k≤l.length→k≤(Q3o l k).1∧(Q3o l k).1≤l.length:=by
 intro n
 induction n with
 |zero =>
  intro k h hk
  rw[Q7i l k (by omega)]
  simp only;omega
 |succ n ih =>
  intro k h hk
  by_cases hlt:k<l.length
  ·by_cases h1:l[k]=62
   ·rw[Qbe l k hlt h1];simp only;omega
   ·by_cases h2:l[k]=60
    ·rw[Qc1 l k hlt h2];simp only;omega
    ·have:=ih (k+1) (by omega) (by omega)
     rw[Q8G l k hlt h1 h2];omega
  ·rw[Q7i l k hlt];simp only;omega
theorem Qbh (l:List Int):∀ (n k:Nat) (ok:Bool),l.length-k≤n→k≤l.length→k≤(Q2o l k ok).1∧(Q2o l k ok).1≤l.length:=by
 intro n
 induction n with
 |zero =>
  intro k ok h hk
  rw[Q5v l k ok (by omega)]
  simp only;omega
 |succ n ih =>
  intro k ok h hk
  by_cases hlt:k<l.length∧ok=true
  ·obtain⟨hlt,rfl⟩:=hlt
   by_cases h1:l[k]=62
   ·rw[Qa6 l k hlt h1];simp only;omega
   ·cases h2:Q4f l[k] with
    |true =>
     have:=Q30 l k hlt
     have:=ih (Q1c l k).1 (Q1c l k).2 (by omega) (by omega)
     rw[Qag l k hlt h1 h2];omega
    |false =>
     by_cases h3:l[k]=91
     ·have:=Q6b l k hlt
      have:=ih (Q66 l k).1 (Q66 l k).2 (by omega) (by omega)
      rw[Q9R l k hlt h3];omega
     ·have:=ih (k+1) true (by omega) (by omega)
      rw[Q81 l k hlt h1 h2 h3];omega
  ·rw[Q5v l k ok hlt];simp only;omega
theorem Q9b (l:List Int)(k:Nat)(hk:k<l.length):k<(Q26 l k).2.1∧(Q26 l k).2.1≤l.length:=by
 unfold Q26
 split
 ·exact Q3d l _ k _ _ hk (by decide)
 ·split
  ·exact Q3d l _ k _ _ hk (by decide)
  ·split
   ·exact Q3d l _ k _ _ hk (by decide)
   ·split
    ·rename_i h
     have h9:=Q2I l k _ (by omega) h
     have h9:k+9≤l.length:=by simpa using h9
     have:=Qbh l l.length (k+9) true (by omega) (by omega)
     unfold Q49;simp only;omega
    ·split
     ·rename_i h
      have h2:=Q2I l k _ (by omega) h
      have h2:k+2≤l.length:=by simpa using h2
      have:=Qcr l l.length (k+2) (by omega) (by omega)
      unfold Q4d;simp only;omega
     ·split
      ·have h:=Q3r l true l.length (k+1) (by omega) (by omega)
       unfold Q1W
       split
       ·simp only;omega
       ·rename_i hb
        have:=h.2.2 (by simpa using hb)
        split<;>(simp only;omega)
      ·simp only;omega
theorem Q1V (l:List Int)(k:Nat)(hk:k<l.length):k<(Qv l k).2.1∧(Qv l k).2.1≤l.length:=by
 unfold Qv
 rw[Q6D hk]
 split
 ·exact Q9b l k hk
 ·split
  ·exact⟨Qhq l k,QiU l k hk⟩
  ·split
   ·simp only;omega
   ·rename_i h1 h2 h3
    have hp:Q28 l[k]=true:=by simp[Q28,h1,h2,h3]
    have hs:=(List.takeWhile_sublist Q28 (l:=l.drop k)).length_le
    rw[List.length_drop] at hs
    rw[List.drop_eq_getElem_cons hk,List.takeWhile_cons,hp] at hs ⊢
    simp only[if_true,List.length_cons] at hs ⊢
    omega
def Q3a (l:List Int)(k:Nat):List ((Nat×Nat×Bool)×Nat):=if h:k<l.length then (Qv l k,k)::Q3a l (Qv l k).2.1 else []
termination_by l.length-k
decreasing_by
 have:=Q1V l k h;omega
theorem Q5G (l:List Int)(k:Nat)(h:k<l.length):Q3a l k=(Qv l k,k)::Q3a l (Qv l k).2.1:=by
 conv=>lhs;rw[Q3a]
 rw[dif_pos h]
theorem Q4k (l:List Int)(k:Nat)(h:¬ k<l.length):Q3a l k=[]:=by rw[Q3a,dif_neg h]
def QdF:Nat→List ((Nat×Nat×Bool)×Nat)→Nat→Prop
 |k,[],n=>k=n
 |k,t::ts,n=>t.2=k∧k<t.1.2.1∧QdF t.1.2.1 ts n
theorem Qdr (l:List Int):∀ (n k:Nat),l.length-k≤n→k≤l.length→QdF k (Q3a l k) l.length:=by
 intro n
 induction n with
 |zero =>
  intro k h hk
  rw[Q4k l k (by omega)]
  show k=l.length
  omega
 |succ n ih =>
  intro k h hk
  by_cases hlt:k<l.length
  ·have hr:=Q1V l k hlt
   rw[Q5G l k hlt]
   have ih2:=ih (Qv l k).2.1 (by omega) hr.2
   exact⟨rfl,hr.1,ih2⟩
  ·rw[Q4k l k hlt]
   show k=l.length
   omega
end Go.Proofs.YtibemhahkicbpaaGreat
namespace Go.Proofs.YtibemhahkicbpaaGreat
open Go.RowKit Go.Lib Tryz
def Q3b (l:List Int):List UInt8:=l.flatMap fun x=>if x=-1 then [] else Q1U [x]
theorem QeB (l:List Int){k:Nat}(h:k<l.length):Q3b (l.take (k+1))=Q3b (l.take k)++(if l[k]=-1 then [] else Q1U [l[k]]):=by
 rw[Q3b,Q3b,List.take_succ_eq_append_getElem h,List.flatMap_append];simp
theorem QbH (l:List Int):(Q3b l).length≤4 * l.length:=by
 induction l with
 |nil=>exact Nat.zero_le _
 |cons x r ih =>
  have h1:(if x=-1 then ([]:List UInt8) else Q1U [x]).length≤4:=by
   split
   ·exact Nat.zero_le _
   ·have:=Q60 [x];simpa using this
  have e:Q3b (x::r)=(if x=-1 then [] else Q1U [x])++Q3b r:=rfl
  rw[e,List.length_append,List.length_cons]
  omega
theorem Sb.below {B b:Nat}{xs:List UInt8}{w w':World}(h:Sb B b xs w)(hb:Below w.heap.size w w'):Sb B b xs w':=by
 have key:∀ p,Lib.BuilderAt 162 5 B b p (bc xs) w→Lib.BuilderAt 162 5 B b p (bc xs) w':=by
  rintro p ⟨hB,v,hbk,hown,hne⟩
  have hlt:b<w.heap.size:=Lib.BuilderAt.lt ⟨hB,v,hbk,hown,hne⟩
  exact⟨hB,v,by rw[hb.block b hlt];exact hbk,Qad hown hb,hne⟩
 exact h.imp (key _) (key _)
theorem Sb.lt {B b:Nat}{xs:List UInt8}{w:World}(h:Sb B b xs w):b<w.heap.size:=by
 rcases h with h|h
 ·exact h.lt
 ·exact h.lt
theorem QhU (A:Option Addr)(n c i j:Nat)(w:World)(hij:i≤j)(hj:j≤n) :
  Calls prog 103 #[.agg #[.int .i64 0,.int .i64 0,.slice A n c,.slice none 0 0],.int .i64 i,.int .i64 j] w fun e w'=>e=.returned (.bool true)∧Below w.heap.size w w':=by
 go_enter func103,ntmps103
 go_wp2
 go_ret
 exact⟨rfl,(Below.refl _ w).alloc (Nat.le_refl _) _⟩
theorem QbW (S:Nat→Prop)(A:Option Addr)(n c:Nat)(l:List Int)(i j:Nat)(w:World)(hr:Rd w S 1 A n c (rc l))(hij:i≤j)(hj:j≤l.length)(hl:l.length≤1000000)(hne:Q3b ((l.drop i).take (j-i))≠[]) :
  Calls prog 50 #[.agg #[.int .i64 0,.int .i64 0,.slice A n c,.slice none 0 0],.int .i64 i,.int .i64 j] w fun e w'=>e=.returned (.string ⟨(Q3b ((l.drop i).take (j-i))).toArray⟩)∧Below w.heap.size w w':=by
 obtain rfl:=hr.rlen
 have hle:=hr.le
 have hmx:c≤9223372036854775807:=hr.max
 obtain⟨A2,hr2,hcut⟩:=hr.cutLH (P:=prog) (t:=26) underlying26 sizeOf21 hij hj
 have hrc:((rc l).drop (i * 1)).take ((j-i) * 1)=rc ((l.drop i).take (j-i)):=by simp[rc,List.map_take,List.map_drop]
 rw[hrc] at hr2
 obtain⟨s,hs⟩:∃ s,s=(l.drop i).take (j-i):=⟨_,rfl⟩
 rw[←hs] at hr2 hne ⊢
 have hsl:s.length=j-i:=by rw[hs,List.length_take,List.length_drop];omega
 have HR:=Lib.hid hr2
 have HC:=Lib.hid hcut
 clear hr hr2 hrc hs hcut
 go_enter func50,ntmps50
 go_wp2_with (go_at_call 103;refine (QhU _ _ _ _ _ _ hij hj).mono ?_)
 rintro e w1 ⟨rfl,hb1⟩
 have HB1:=Lib.hid (bt (ba w _) hb1)
 have hc0:w1.cell? ⟨w.heap.size,2,none⟩=some (.slice A l.length c):=Q5q hb1 (Qgk w _ _ 2 rfl)
 have hlt0:w.heap.size<w1.heap.size:=World.block_lt_of_cell? w1 _ hc0
 have hc1:(w1.alloc (.cells #[.pointer none,.slice none 0 0] 162)).cell? ⟨w.heap.size,2,none⟩=some (.slice A l.length c):=Q5q ((Below.refl _ w1).alloc (Nat.le_refl _) _) hc0
 have HSB:Hid (Sb w1.heap.size w1.heap.size [] (w1.alloc (.cells #[.pointer none,.slice none 0 0] 162))):=Lib.fresh_isBuilder 162 5 w1
 have hcut:=HC.out
 clear hb1 hc0
 go_wp2
 clear hcut
 go_loopw [21] (fun q wr=>∃ (k:Nat),k≤s.length∧q=.int .i64 k∧Hid (Sb w1.heap.size w1.heap.size (Q3b (s.take k)) wr)∧Hid (Below w1.heap.size w1 wr))
  (fun q _=>s.length-(intOf q).toNat)
 case atStart=>exact⟨0,Nat.zero_le _,rfl,HSB.out,ba w1 _⟩
 case round =>
  obtain⟨k,hk,rfl,HO,HB⟩:=hrel
  have hsz:=HB.out.size
  have hblt:=HO.out.lt
  have hfl:=QbH (s.take k)
  rw[List.length_take] at hfl
  by_cases hlt:k<s.length
  ·obtain⟨b,u,rfl,hc2⟩:=(HR.out.below (bt HB1.out HB.out)).rune hlt
   have HST:=Lib.hid (QeB s hlt)
   generalize s[k]=r at hc2 HST
   by_cases hb:r=-1
   ·have hS2:Q3b (s.take (k+1))=Q3b (s.take k):=by rw[HST.out,if_pos hb,List.append_nil]
    have HST2:=Lib.hid hS2
    clear HST hS2
    subst hb
    go_wp2
    go_roundw
    case rel=>exact⟨k+1,by omega,by go_num,by rw[HST2.out];exact HO.out,HB.out⟩
    case measure=>simp[intOf];omega
   ·have hS2:Q3b (s.take (k+1))=Q3b (s.take k)++Q1U [r]:=by rw[HST.out,if_neg hb]
    have HST2:=Lib.hid hS2
    clear HST hS2
    have hbl:=Q60 [r]
    simp only[List.length_singleton] at hbl
    have hsa:(wr.alloc (.cells #[.int .i32 r] 21)).heap.size=wr.heap.size+1:=by simp
    go_wp2_with fail
    refine (Qfz _ _ 1 1 [r] _ (Rd.litN wr wr.heap.size rfl _ #[.int .i32 r] 1 1 rfl (by decide)) (by simp)).mono ?_
    rintro e w2 ⟨v,rfl,⟨n2,hown⟩,hb2⟩
    have hn2:=Q8L hown
    obtain⟨A3,c3,rfl,hro⟩:=Q1t hown
    have HO2:=Lib.hid ((HO.out.below (ba wr _)).below hb2)
    have HB2:=Lib.hid (bb (bb HB.out (ba wr _) hsz) hb2 (by omega))
    have hsz2:=HB2.out.size
    have HRO:=Lib.hid hro
    have hc3:c3≤9223372036854775807:=hro.max
    subst hn2
    clear hown hb2 hro
    go_wp2_with fail
    refine (QbK _ A3 _ c3 w1.heap.size w1.heap.size (Q3b (s.take k)) (Q1U [r]) w2 HO2.out HRO.out (by omega) (by omega) hsz2).mono ?_
    rintro e w3 ⟨rfl,h3,hb3⟩
    have HO3:=Lib.hid h3
    have HB3:=Lib.hid (HB2.out.trans hb3)
    clear h3 hb3
    go_wp2
    go_roundw
    case rel=>exact⟨k+1,by omega,by go_num,by rw[HST2.out];exact HO3.out,HB3.out⟩
    case measure=>simp[intOf];omega
  ·have e:s.take k=s:=List.take_of_length_le (by omega)
   rw[e] at HO
   go_wp2_with fail
   refine (Qap w1.heap.size w1.heap.size (Q3b s) wr HO.out hne).mono ?_
   rintro e w3 ⟨rfl,hb3⟩
   have HB3:=Lib.hid (HB.out.trans hb3)
   clear hb3
   go_wp2
   go_ret
   exact⟨rfl,HB1.out.trans (HB3.out.mono HB1.out.size)⟩
end Go.Proofs.YtibemhahkicbpaaGreat
