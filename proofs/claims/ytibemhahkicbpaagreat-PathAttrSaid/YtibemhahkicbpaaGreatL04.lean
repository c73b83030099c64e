/- Lemmas, conditions told -/
import Derived.Test.YtibemhahkicbpaaGreatL02
import Derived.Lib.Builder
import Derived.Lib.UnsafeStr
import Derived.Lib.Bytealg
set_option maxRecDepth 99999
set_option maxHeartbeats 0
set_option linter.unusedSimpArgs false
set_option linter.unusedVariables false
namespace Go.Proofs.YtibemhahkicbpaaGreat
open Lib(hid cell_of_heap)
open Nat(lt_of_lt_of_le le_refl zero_le)
section
open Go.RowKit Go.Lib Tryz
theorem Qlr{P:Program}{T:TypeId}{d:TypeDesc}(w:World)(vs:List Value)(hi:(P.info? T).map (·.size)=some vs.length)(hu:P.underlying T=some d)(hd:d.isRow=true) :
  (loadVar T ⟨w.heap.size,0,none⟩).run P (w.alloc (.cells vs.toArray T))=.ok (.agg vs.toArray) (w.alloc (.cells vs.toArray T)) :=
 run_loadVar_mid (P:=P) _ w.heap.size 0 T vs d (fun j v hv=>by
  rw[World.cell?_alloc_at _ _ _ _ rfl,Nat.zero_add];simpa using hv) hu hd hi
theorem Q17(l:List Int)(k:Nat)(bs:List UInt8)(hk:k<=l.length)(h:Q6 l k bs=true):k+bs.length<=l.length:=by
 by_cases hn:l.length<k+bs.length
 ·rw[Q66 l k bs hn hk]at h;cases h
 ·omega
theorem Qfx(S:Nat->Prop)(A:Option Addr)(n c:Nat)(l:List Int)(k:Nat)(w:World)(hr:Rd w S 1 A n c (rc l))(hk:k<l.length)(hl9:l.length<=1000000000) :
  Calls prog 174 #[.slice A n c,.int .i64 k] w fun e w'=>e=.returned (Q25 (Q1H l k) k)/\Below w.heap.size w w':=by
 obtain rfl:=hr.rlen;have hle:=hr.le;have hmx:c<=9223372036854775807:=hr.max;have HR:=hid hr
 have HSa:∀W,Below w.heap.size w W->Hid (Calls prog 185 #[.slice A l.length c,.int .i64 k,.string ⟨#[60,33,45,45]⟩] W fun e w'=>e=.returned (.bool (Q6 l k [60,33,45,45]))/\Below W.heap.size W w') :=
  fun W h=>Q24 S A l.length c l k ⟨#[60,33,45,45]⟩ W (HR.out.below h) (by omega) hl9 (by decide)
 have HSb:∀W,Below w.heap.size w W->Hid (Calls prog 185 #[.slice A l.length c,.int .i64 k,.string ⟨#[60,33,91,67,68,65,84,65,91]⟩] W fun e w'=>e=.returned (.bool (Q6 l k [60,33,91,67,68,65,84,65,91]))/\Below W.heap.size W w') :=
  fun W h=>Q24 S A l.length c l k ⟨#[60,33,91,67,68,65,84,65,91]⟩ W (HR.out.below h) (by omega) hl9 (by decide)
 have HSc:∀W,Below w.heap.size w W->Hid (Calls prog 185 #[.slice A l.length c,.int .i64 k,.string ⟨#[60,63]⟩] W fun e w'=>e=.returned (.bool (Q6 l k [60,63]))/\Below W.heap.size W w') :=
  fun W h=>Q24 S A l.length c l k ⟨#[60,63]⟩ W (HR.out.below h) (by omega) hl9 (by decide)
 have HSd:∀W,Below w.heap.size w W->Hid (Calls prog 185 #[.slice A l.length c,.int .i64 k,.string ⟨#[60,33,68,79,67,84,89,80,69]⟩] W fun e w'=>e=.returned (.bool (Q6 l k [60,33,68,79,67,84,89,80,69]))/\Below W.heap.size W w') :=
  fun W h=>Q24 S A l.length c l k ⟨#[60,33,68,79,67,84,89,80,69]⟩ W (HR.out.below h) (by omega) hl9 (by decide)
 have HSe:∀W,Below w.heap.size w W->Hid (Calls prog 185 #[.slice A l.length c,.int .i64 k,.string ⟨#[60,47]⟩] W fun e w'=>e=.returned (.bool (Q6 l k [60,47]))/\Below W.heap.size W w') :=
  fun W h=>Q24 S A l.length c l k ⟨#[60,47]⟩ W (HR.out.below h) (by omega) hl9 (by decide)
 have HUa:∀W,Below w.heap.size w W->Hid (Calls prog 207 #[.slice A l.length c,.int .i64 4,.int .i64 k,.int .i64 4,.string ⟨#[45,45,62]⟩] W fun e w'=>e=.returned (.agg #[.int .i64 (Q14 l 4 k 4 [45,45,62]).1,.int .i64 k,.int .i64 (Q14 l 4 k 4 [45,45,62]).2.1,.bool (Q14 l 4 k 4 [45,45,62]).2.2])/\Below W.heap.size W w') :=
  fun W h=>Q6D S A l.length c l 4 k 4 ⟨#[45,45,62]⟩ W (HR.out.below h) (by omega) (by decide) hl9 (by decide)
 have HUb:∀W,Below w.heap.size w W->Hid (Calls prog 207 #[.slice A l.length c,.int .i64 6,.int .i64 k,.int .i64 9,.string ⟨#[93,93,62]⟩] W fun e w'=>e=.returned (.agg #[.int .i64 (Q14 l 6 k 9 [93,93,62]).1,.int .i64 k,.int .i64 (Q14 l 6 k 9 [93,93,62]).2.1,.bool (Q14 l 6 k 9 [93,93,62]).2.2])/\Below W.heap.size W w') :=
  fun W h=>Q6D S A l.length c l 6 k 9 ⟨#[93,93,62]⟩ W (HR.out.below h) (by omega) (by decide) hl9 (by decide)
 have HUc:∀W,Below w.heap.size w W->Hid (Calls prog 207 #[.slice A l.length c,.int .i64 5,.int .i64 k,.int .i64 2,.string ⟨#[63,62]⟩] W fun e w'=>e=.returned (.agg #[.int .i64 (Q14 l 5 k 2 [63,62]).1,.int .i64 k,.int .i64 (Q14 l 5 k 2 [63,62]).2.1,.bool (Q14 l 5 k 2 [63,62]).2.2])/\Below W.heap.size W w') :=
  fun W h=>Q6D S A l.length c l 5 k 2 ⟨#[63,62]⟩ W (HR.out.below h) (by omega) (by decide) hl9 (by decide)
 have HUd:Q6 l k [60,33,68,79,67,84,89,80,69]=true->∀W,Below w.heap.size w W->Hid (Calls prog 208 #[.slice A l.length c,.int .i64 k] W fun e w'=>e=.returned (.agg #[.int .i64 (Q3E l k).1,.int .i64 k,.int .i64 (Q3E l k).2.1,.bool (Q3E l k).2.2])/\Below W.heap.size W w') :=
  fun hs W h=>Qd5 S A l.length c l k W (HR.out.below h) (by have:=Q17 l k _ (by omega) hs;simpa using this) hl9
 have HUe:Q6 l k [60,47]=true->∀W,Below w.heap.size w W->Hid (Calls prog 209 #[.slice A l.length c,.int .i64 k] W fun e w'=>e=.returned (.agg #[.int .i64 (Q3h l k).1,.int .i64 k,.int .i64 (Q3h l k).2.1,.bool (Q3h l k).2.2])/\Below W.heap.size W w') :=
  fun hs W h=>Qkk S A l.length c l k W (HR.out.below h) (by have:=Q17 l k _ (by omega) hs;simpa using this) hl9
 have HUf:∀W,Below w.heap.size w W->Hid (Calls prog 210 #[.slice A l.length c,.int .i64 k] W fun e w'=>e=.returned (.agg #[.int .i64 (Q1D l k).1,.int .i64 k,.int .i64 (Q1D l k).2.1,.bool (Q1D l k).2.2])/\Below W.heap.size W w') :=
  fun W h=>QfL S A l.length c l k W (HR.out.below h) hk hl9
 have HLD:∀W,Below w.heap.size w W->Hid (Calls prog 183 #[.slice A l.length c,.int .i64 ((k:Int)+1)] W fun e w'=>e=.returned (.int .i64 (Qj l (k+1)))/\Below W.heap.size W w'):=fun W h=>by
  rw[show((k:Int)+1)=((k+1:Nat):Int) by omega]
  exact Q78 S A l.length c l (k+1) W (HR.out.below h) (by omega)
 have HT:Hid (Q1H l k=if Q6 l k [60,33,45,45]=true then Q14 l 4 k 4 [45,45,62]
  else if Q6 l k [60,33,91,67,68,65,84,65,91]=true then Q14 l 6 k 9 [93,93,62]
  else if Q6 l k [60,63]=true then Q14 l 5 k 2 [63,62]
  else if Q6 l k [60,33,68,79,67,84,89,80,69]=true then Q3E l k
  else if Q6 l k [60,47]=true then Q3h l k
  else if 0<Qj l (k+1)then Q1D l k
  else(11,k+1,false)):=rfl
 clear hr;generalize Q1H l k=t at HT ⊢;generalize Q6 l k [60,33,45,45]=sa at HSa HT;generalize Q6 l k [60,33,91,67,68,65,84,65,91]=sb at HSb HT;generalize Q6 l k [60,63]=sc at HSc HT;generalize Q6 l k [60,33,68,79,67,84,89,80,69]=sd at HSd HT HUd;generalize Q6 l k [60,47]=se at HSe HT HUe;generalize Q14 l 4 k 4 [45,45,62]=ua at HUa HT;generalize Q14 l 6 k 9 [93,93,62]=ub at HUb HT;generalize Q14 l 5 k 2 [63,62]=uc at HUc HT;generalize Q3E l k=ud at HUd HT;generalize Q3h l k=ue at HUe HT;generalize Q1D l k=uf at HUf HT;generalize Qj l (k+1)=ld at HLD HT;obtain⟨kka,tta,wwa⟩:=ua;obtain⟨kkb,ttb,wwb⟩:=ub;obtain⟨kkc,ttc,wwc⟩:=uc;obtain⟨kkd,ttd,wwd⟩:=ud;obtain⟨kke,tte,wwe⟩:=ue;obtain⟨kkf,ttf,wwf⟩:=uf;go_enter func174,ntmps174
 go_wp2_with fail
 have HTH0:=hid (Q2K w #[.int .i64 0,.int .i64 0,.int .i64 0,.bool false] 185);have HB0:=hid (ba w (.cells #[.int .i64 0,.int .i64 0,.int .i64 0,.bool false] 185));have HSZ:Hid (w.heap.size<(w.alloc (.cells #[.int .i64 0,.int .i64 0,.int .i64 0,.bool false] 185)).heap.size):=by simp[Hid]
 generalize w.alloc (.cells #[.int .i64 0,.int .i64 0,.int .i64 0,.bool false] 185)=W0 at HTH0 HB0 HSZ;have HTH0:Hid (W0.there w.heap.size 0 4):=HTH0.out;refine(HSa _ HB0.out).out.mono ?_;rintro e va ⟨rfl,hb⟩;have HBa:=hid (HB0.out.trans (hb.mono HB0.out.size));have HTHa:Hid (va.there w.heap.size 0 4):=QK HTH0.out hb HSZ.out;have HLTa:Hid (w.heap.size<va.heap.size):=lt_of_lt_of_le HSZ.out hb.size;clear hb HSa;cases sa with
 |true =>
  have HE:Hid (t=(kka,tta,wwa)):=HT.out;clear HT;go_wp2_with fail
  refine(HUa _ HBa.out).out.mono ?_;rintro e xa ⟨rfl,hb⟩;have HBx:=hid (HBa.out.trans (hb.mono HBa.out.size));have HTHx:Hid (xa.there w.heap.size 0 4):=QK HTHa.out hb HLTa.out;clear hb;have HL9:=hid (QF (P:=prog) (T:=185) xa w.heap.size [.int .i64 kka,.int .i64 k,.int .i64 (tta),.bool wwa] HTHx.out (by kernel_rfl) underlying185 rfl)
  have HB9:=hid (Qf HBx.out w.heap.size (le_refl _) [.int .i64 kka,.int .i64 k,.int .i64 (tta),.bool wwa] 0);obtain⟨⟨z0,hz0⟩,hf0⟩:=Q7 HTHx.out 0 (by decide)
  obtain⟨⟨z1,hz1⟩,hf1⟩:=Q7 HTHx.out 1 (by decide)
  obtain⟨⟨z2,hz2⟩,hf2⟩:=Q7 HTHx.out 2 (by decide)
  obtain⟨⟨z3,hz3⟩,hf3⟩:=Q7 HTHx.out 3 (by decide)
  go_wp2
  refine bodyPost_ret (Qw rfl _ rfl HL9.out) rfl ?_;rw[HE.out];exact⟨rfl,HB9.out⟩
 |false =>
  go_wp2_with fail
  refine(HSb _ HBa.out).out.mono ?_;rintro e vb ⟨rfl,hb⟩;have HBb:=hid (HBa.out.trans (hb.mono HBa.out.size));have HTHb:Hid (vb.there w.heap.size 0 4):=QK HTHa.out hb HLTa.out;have HLTb:Hid (w.heap.size<vb.heap.size):=lt_of_lt_of_le HLTa.out hb.size;clear hb HSb;cases sb with
  |true =>
   have HE:Hid (t=(kkb,ttb,wwb)):=HT.out;clear HT;go_wp2_with fail
   refine(HUb _ HBb.out).out.mono ?_;rintro e xb ⟨rfl,hb⟩;have HBx:=hid (HBb.out.trans (hb.mono HBb.out.size));have HTHx:Hid (xb.there w.heap.size 0 4):=QK HTHb.out hb HLTb.out;clear hb;have HL9:=hid (QF (P:=prog) (T:=185) xb w.heap.size [.int .i64 kkb,.int .i64 k,.int .i64 (ttb),.bool wwb] HTHx.out (by kernel_rfl) underlying185 rfl)
   have HB9:=hid (Qf HBx.out w.heap.size (le_refl _) [.int .i64 kkb,.int .i64 k,.int .i64 (ttb),.bool wwb] 0);obtain⟨⟨z0,hz0⟩,hf0⟩:=Q7 HTHx.out 0 (by decide)
   obtain⟨⟨z1,hz1⟩,hf1⟩:=Q7 HTHx.out 1 (by decide)
   obtain⟨⟨z2,hz2⟩,hf2⟩:=Q7 HTHx.out 2 (by decide)
   obtain⟨⟨z3,hz3⟩,hf3⟩:=Q7 HTHx.out 3 (by decide)
   go_wp2
   refine bodyPost_ret (Qw rfl _ rfl HL9.out) rfl ?_;rw[HE.out];exact⟨rfl,HB9.out⟩
  |false =>
   go_wp2_with fail
   refine(HSc _ HBb.out).out.mono ?_;rintro e vc ⟨rfl,hb⟩;have HBc:=hid (HBb.out.trans (hb.mono HBb.out.size));have HTHc:Hid (vc.there w.heap.size 0 4):=QK HTHb.out hb HLTb.out;have HLTc:Hid (w.heap.size<vc.heap.size):=lt_of_lt_of_le HLTb.out hb.size;clear hb HSc;cases sc with
   |true =>
    have HE:Hid (t=(kkc,ttc,wwc)):=HT.out;clear HT;go_wp2_with fail
    refine(HUc _ HBc.out).out.mono ?_;rintro e xc ⟨rfl,hb⟩;have HBx:=hid (HBc.out.trans (hb.mono HBc.out.size));have HTHx:Hid (xc.there w.heap.size 0 4):=QK HTHc.out hb HLTc.out;clear hb;have HL9:=hid (QF (P:=prog) (T:=185) xc w.heap.size [.int .i64 kkc,.int .i64 k,.int .i64 (ttc),.bool wwc] HTHx.out (by kernel_rfl) underlying185 rfl)
    have HB9:=hid (Qf HBx.out w.heap.size (le_refl _) [.int .i64 kkc,.int .i64 k,.int .i64 (ttc),.bool wwc] 0);obtain⟨⟨z0,hz0⟩,hf0⟩:=Q7 HTHx.out 0 (by decide)
    obtain⟨⟨z1,hz1⟩,hf1⟩:=Q7 HTHx.out 1 (by decide)
    obtain⟨⟨z2,hz2⟩,hf2⟩:=Q7 HTHx.out 2 (by decide)
    obtain⟨⟨z3,hz3⟩,hf3⟩:=Q7 HTHx.out 3 (by decide)
    go_wp2
    refine bodyPost_ret (Qw rfl _ rfl HL9.out) rfl ?_;rw[HE.out];exact⟨rfl,HB9.out⟩
   |false =>
    go_wp2_with fail
    refine(HSd _ HBc.out).out.mono ?_;rintro e vd ⟨rfl,hb⟩;have HBd:=hid (HBc.out.trans (hb.mono HBc.out.size));have HTHd:Hid (vd.there w.heap.size 0 4):=QK HTHc.out hb HLTc.out;have HLTd:Hid (w.heap.size<vd.heap.size):=lt_of_lt_of_le HLTc.out hb.size;clear hb HSd;cases sd with
    |true =>
     have HE:Hid (t=(kkd,ttd,wwd)):=HT.out;clear HT;go_wp2_with fail
     refine(HUd (by first|trivial|rfl) _ HBd.out).out.mono ?_
     rintro e xd ⟨rfl,hb⟩;have HBx:=hid (HBd.out.trans (hb.mono HBd.out.size));have HTHx:Hid (xd.there w.heap.size 0 4):=QK HTHd.out hb HLTd.out;clear hb;have HL9:=hid (QF (P:=prog) (T:=185) xd w.heap.size [.int .i64 kkd,.int .i64 k,.int .i64 (ttd),.bool wwd] HTHx.out (by kernel_rfl) underlying185 rfl)
     have HB9:=hid (Qf HBx.out w.heap.size (le_refl _) [.int .i64 kkd,.int .i64 k,.int .i64 (ttd),.bool wwd] 0);obtain⟨⟨z0,hz0⟩,hf0⟩:=Q7 HTHx.out 0 (by decide)
     obtain⟨⟨z1,hz1⟩,hf1⟩:=Q7 HTHx.out 1 (by decide)
     obtain⟨⟨z2,hz2⟩,hf2⟩:=Q7 HTHx.out 2 (by decide)
     obtain⟨⟨z3,hz3⟩,hf3⟩:=Q7 HTHx.out 3 (by decide)
     go_wp2
     refine bodyPost_ret (Qw rfl _ rfl HL9.out) rfl ?_;rw[HE.out];exact⟨rfl,HB9.out⟩
    |false =>
     go_wp2_with fail
     refine(HSe _ HBd.out).out.mono ?_;rintro e ve ⟨rfl,hb⟩;have HBe:=hid (HBd.out.trans (hb.mono HBd.out.size));have HTHe:Hid (ve.there w.heap.size 0 4):=QK HTHd.out hb HLTd.out;have HLTe:Hid (w.heap.size<ve.heap.size):=lt_of_lt_of_le HLTd.out hb.size;clear hb HSe;cases se with
     |true =>
      have HE:Hid (t=(kke,tte,wwe)):=HT.out;clear HT;go_wp2_with fail
      refine(HUe (by first|trivial|rfl) _ HBe.out).out.mono ?_
      rintro e xe ⟨rfl,hb⟩;have HBx:=hid (HBe.out.trans (hb.mono HBe.out.size));have HTHx:Hid (xe.there w.heap.size 0 4):=QK HTHe.out hb HLTe.out;clear hb;have HL9:=hid (QF (P:=prog) (T:=185) xe w.heap.size [.int .i64 kke,.int .i64 k,.int .i64 (tte),.bool wwe] HTHx.out (by kernel_rfl) underlying185 rfl)
      have HB9:=hid (Qf HBx.out w.heap.size (le_refl _) [.int .i64 kke,.int .i64 k,.int .i64 (tte),.bool wwe] 0);obtain⟨⟨z0,hz0⟩,hf0⟩:=Q7 HTHx.out 0 (by decide)
      obtain⟨⟨z1,hz1⟩,hf1⟩:=Q7 HTHx.out 1 (by decide)
      obtain⟨⟨z2,hz2⟩,hf2⟩:=Q7 HTHx.out 2 (by decide)
      obtain⟨⟨z3,hz3⟩,hf3⟩:=Q7 HTHx.out 3 (by decide)
      go_wp2
      refine bodyPost_ret (Qw rfl _ rfl HL9.out) rfl ?_;rw[HE.out];exact⟨rfl,HB9.out⟩
     |false =>
      go_wp2_with fail
      refine(HLD _ HBe.out).out.mono ?_;rintro e vf ⟨rfl,hb⟩;have HBf:=hid (HBe.out.trans (hb.mono HBe.out.size));have HTHf:Hid (vf.there w.heap.size 0 4):=QK HTHe.out hb HLTe.out;have HLTf:Hid (w.heap.size<vf.heap.size):=lt_of_lt_of_le HLTe.out hb.size;clear hb HLD;by_cases hl0:0<ld
      ·have hl0i:(ld:Int) > 0:=by omega
       have HE:Hid (t=(kkf,ttf,wwf)):=by rw[Hid,HT.out];simp[hl0]
       clear HT;go_wp2_with fail
       refine(HUf _ HBf.out).out.mono ?_;rintro e xf ⟨rfl,hb⟩;have HBx:=hid (HBf.out.trans (hb.mono HBf.out.size));have HTHx:Hid (xf.there w.heap.size 0 4):=QK HTHf.out hb HLTf.out;clear hb;have HL9:=hid (QF (P:=prog) (T:=185) xf w.heap.size [.int .i64 kkf,.int .i64 k,.int .i64 (ttf),.bool wwf] HTHx.out (by kernel_rfl) underlying185 rfl)
       have HB9:=hid (Qf HBx.out w.heap.size (le_refl _) [.int .i64 kkf,.int .i64 k,.int .i64 (ttf),.bool wwf] 0);obtain⟨⟨z0,hz0⟩,hf0⟩:=Q7 HTHx.out 0 (by decide)
       obtain⟨⟨z1,hz1⟩,hf1⟩:=Q7 HTHx.out 1 (by decide)
       obtain⟨⟨z2,hz2⟩,hf2⟩:=Q7 HTHx.out 2 (by decide)
       obtain⟨⟨z3,hz3⟩,hf3⟩:=Q7 HTHx.out 3 (by decide)
       go_wp2
       refine bodyPost_ret (Qw rfl _ rfl HL9.out) rfl ?_;rw[HE.out];exact⟨rfl,HB9.out⟩
      ·have hl0i:¬(ld:Int) > 0:=by omega
       have HE:Hid (t=(11,k+1,false)):=by rw[Hid,HT.out];simp[hl0]
       clear HT;have HL9:=hid (QF (P:=prog) (T:=185) vf w.heap.size [.int .i64 11,.int .i64 k,.int .i64 ((k:Int)+1),.bool false] HTHf.out (by kernel_rfl) underlying185 rfl)
       have HB9:=hid (Qf HBf.out w.heap.size (le_refl _) [.int .i64 11,.int .i64 k,.int .i64 ((k:Int)+1),.bool false] 0);obtain⟨⟨z0,hz0⟩,hf0⟩:=Q7 HTHf.out 0 (by decide)
       obtain⟨⟨z1,hz1⟩,hf1⟩:=Q7 HTHf.out 1 (by decide)
       obtain⟨⟨z2,hz2⟩,hf2⟩:=Q7 HTHf.out 2 (by decide)
       obtain⟨⟨z3,hz3⟩,hf3⟩:=Q7 HTHf.out 3 (by decide)
       go_wp2
       refine bodyPost_ret (Qw rfl _ rfl HL9.out) rfl ?_;rw[HE.out];exact⟨by simp[Q25],HB9.out⟩
theorem Qfw(r:Int)(w:World):Calls prog 177 #[.int .i32 r] w fun e w'=>e=.returned (.bool (Q1Q r))/\w=w':=by
 by_cases h1:r=60
 ·subst h1
  go_enter func177,ntmps177
  go_wp2
  go_ret
  exact⟨rfl,rfl⟩
 ·have h1b:(r != 60)=true:=by simpa using h1
  by_cases h2:r=38
  ·subst h2
   clear h1;go_enter func177,ntmps177
   go_wp2
   go_ret
   exact⟨rfl,rfl⟩
  ·have h2b:(r != 38)=true:=by simpa using h2
   have HE:Hid (Q1Q r=(r != -1)):=by rw[Hid,Q1Q,h1b,h2b,Bool.true_and,Bool.true_and]
   clear h1 h2;go_enter func177,ntmps177
   go_wp2
   go_ret
   exact⟨QR HE.out.symm,rfl⟩
theorem Qjm(w:World):Q7L prog 177 #[] Q1Q w:=fun W r _=>(Qfw r W).mono fun _ _ ⟨h1,h2⟩=>⟨h1,h2 ▸ Below.refl _ _⟩
theorem QhX:∀args w,(callFunc 177 args).run prog w=.ok (.enter 177 args) w:=enters_of func177 (by kernel_rfl) rfl
theorem QhE(S:Nat->Prop)(A:Option Addr)(n c:Nat)(l:List Int)(k:Nat)(w:World)(hr:Rd w S 1 A n c (rc l))(hk:k<l.length)(hl9:l.length<=1000000000) :
  Calls prog 133 #[.slice A n c,.int .i64 k] w fun e w'=>e=.returned (.tuple #[Q25 (Ql l k) k,.bool true])/\Below w.heap.size w w':=by
 obtain rfl:=hr.rlen;have hle:=hr.le;have hmx:c<=9223372036854775807:=hr.max;by_cases h38:l[k]=38
 ·have HE:Ql l k=Q1n l k:=by rw[Ql,Q89 hk,h38];rfl
  rw[HE];exact QeT S A _ c l k w hr (by rw[List.getElem?_eq_getElem hk,h38]) hl9
 ·obtain⟨b,o,rfl,hc0⟩:=hr.rune hk
  have hca:=fun ob=>Q7h (ba w ob) hc0
  have hki:¬(k:Int) ≥ (l.length:Int):=by omega
  have hkj:(k:Int)<(l.length:Int):=by omega
  have HMK:=fun W (h:Below w.heap.size w W)=>hid (Qfx S _ _ c l k W (hr.below h) hk hl9)
  have HMK:∀W,Below w.heap.size w W->Hid (Calls prog 174 #[.slice (some ⟨b,o,none⟩) l.length c,.int .i64 k] W fun e w'=>e=.returned (.agg #[.int .i64 (Q1H l k).1,.int .i64 k,.int .i64 (Q1H l k).2.1,.bool (Q1H l k).2.2])/\Below W.heap.size W w'):=HMK
  have HRN:=fun W (h:Below w.heap.size w W)=>(Q8g S _ l.length c l k _ #[] Q1Q W QhX (hr.below h) (Qjm W))
  have hrn:Q2X Q1Q l k=((l.drop k).takeWhile Q1Q).length:=by rw[Q2X,if_neg (by omega),Int.toNat_natCast]
  rw[hrn]at HRN;have HRN:=fun W h=>hid (HRN W h)
  have hrl:=(List.takeWhile_sublist Q1Q (l:=l.drop k)).length_le;rw[List.length_drop]at hrl;have HT:Hid (Ql l k=if l[k]=60 then Q1H l k else if l[k]=38 then Q1n l k else if l[k]=-1 then(11,k+1,false)else(1,k+((l.drop k).takeWhile Q1Q).length,true)):=by rw[Hid,Ql,Q89 hk]
  clear hr hrn;generalize Ql l k=t at HT ⊢;generalize Q1H l k=mk at HMK HT;generalize ((l.drop k).takeWhile Q1Q).length=rn at HRN HT hrl;obtain⟨mka,mkb,mkc⟩:=mk;generalize l[k]=r at hc0 hca HT h38;have h38b:(r == 38)=false:=by simpa using h38
  by_cases h60:r=60
  ·have HE:Hid (t=(mka,mkb,mkc)):=by rw[Hid,HT.out,if_pos h60]
   subst h60;clear HT h38 hc0 HRN;go_enter func133,ntmps133
   go_wp2_with fail
   have HTH0:=hid (Q2K w #[.int .i64 0,.int .i64 0,.int .i64 0,.bool false] 185);have HB0:=hid (ba w (.cells #[.int .i64 0,.int .i64 0,.int .i64 0,.bool false] 185));have HSZ:Hid (w.heap.size<(w.alloc (.cells #[.int .i64 0,.int .i64 0,.int .i64 0,.bool false] 185)).heap.size):=by simp[Hid]
   generalize w.alloc (.cells #[.int .i64 0,.int .i64 0,.int .i64 0,.bool false] 185)=W0 at HTH0 HB0 HSZ;refine(HMK _ HB0.out).out.mono ?_;rintro e w1 ⟨rfl,hb1⟩;have HB1:=hid (HB0.out.trans (hb1.mono HB0.out.size));have HTH1:Hid (w1.there w.heap.size 0 4):=QK HTH0.out hb1 HSZ.out;clear hb1 HTH0 HSZ;have HL9:=hid (QF (P:=prog) (T:=185) w1 w.heap.size [.int .i64 mka,.int .i64 k,.int .i64 (mkb),.bool mkc] HTH1.out (by kernel_rfl) underlying185 rfl)
   have HB9:=hid (Qf HB1.out w.heap.size (le_refl _) [.int .i64 mka,.int .i64 k,.int .i64 (mkb),.bool mkc] 0);obtain⟨⟨z0,hz0⟩,hf0⟩:=Q7 HTH1.out 0 (by decide)
   obtain⟨⟨z1,hz1⟩,hf1⟩:=Q7 HTH1.out 1 (by decide)
   obtain⟨⟨z2,hz2⟩,hf2⟩:=Q7 HTH1.out 2 (by decide)
   obtain⟨⟨z3,hz3⟩,hf3⟩:=Q7 HTH1.out 3 (by decide)
   go_wp2
   refine bodyPost_ret (Q4e rfl _ rfl HL9.out) rfl ?_;rw[HE.out];exact⟨rfl,HB9.out⟩
  ·have h60b:(r == 60)=false:=by simpa using h60
   by_cases h1:r=-1
   ·have HE:Hid (t=(11,k+1,false)):=by rw[Hid,HT.out,if_neg h60,if_neg h38,if_pos h1]
    subst h1;clear HT h38 h60 hc0 HRN HMK;have HL9:=hid (Qlr (P:=prog) (T:=185) w [.int .i64 11,.int .i64 k,.int .i64 ((k:Int)+1),.bool false] (by kernel_rfl) underlying185 rfl)
    have HB9:=hid (ba w (.cells #[.int .i64 11,.int .i64 k,.int .i64 ((k:Int)+1),.bool false] 185));go_enter func133,ntmps133
    go_wp2
    refine bodyPost_ret (Q4e rfl _ rfl HL9.out) rfl ?_;rw[HE.out];exact⟨by simp[Q25],HB9.out⟩
   ·have h1b:(r == -1)=false:=by simpa using h1
    have HE:Hid (t=(1,k+rn,true)):=by rw[Hid,HT.out,if_neg h60,if_neg h38,if_neg h1]
    clear HT h38 h60 h1 hc0 HMK;go_enter func133,ntmps133
    go_wp2_with fail
    have HTH0:=hid (Q2K w #[.int .i64 0,.int .i64 0,.int .i64 0,.bool false] 185);have HB0:=hid (ba w (.cells #[.int .i64 0,.int .i64 0,.int .i64 0,.bool false] 185));have HSZ:Hid (w.heap.size<(w.alloc (.cells #[.int .i64 0,.int .i64 0,.int .i64 0,.bool false] 185)).heap.size):=by simp[Hid]
    generalize w.alloc (.cells #[.int .i64 0,.int .i64 0,.int .i64 0,.bool false] 185)=W0 at HTH0 HB0 HSZ;refine(HRN _ HB0.out).out.mono ?_;rintro e w1 ⟨rfl,hb1⟩;have HB1:=hid (HB0.out.trans (hb1.mono HB0.out.size));have HTH1:Hid (w1.there w.heap.size 0 4):=QK HTH0.out hb1 HSZ.out;clear hb1 HTH0 HSZ;have HL9:=hid (QF (P:=prog) (T:=185) w1 w.heap.size [.int .i64 1,.int .i64 k,.int .i64 ((k:Int)+(rn:Int)),.bool true] HTH1.out (by kernel_rfl) underlying185 rfl)
    have HB9:=hid (Qf HB1.out w.heap.size (le_refl _) [.int .i64 1,.int .i64 k,.int .i64 ((k:Int)+(rn:Int)),.bool true] 0);obtain⟨⟨z0,hz0⟩,hf0⟩:=Q7 HTH1.out 0 (by decide)
    obtain⟨⟨z1,hz1⟩,hf1⟩:=Q7 HTH1.out 1 (by decide)
    obtain⟨⟨z2,hz2⟩,hf2⟩:=Q7 HTH1.out 2 (by decide)
    obtain⟨⟨z3,hz3⟩,hf3⟩:=Q7 HTH1.out 3 (by decide)
    go_wp2
    refine bodyPost_ret (Q4e rfl _ rfl HL9.out) rfl ?_;rw[HE.out];exact⟨by simp[Q25],HB9.out⟩
end
section
open Go.RowKit Go.Lib
theorem Qe9(l:List Int):∀(n k:Nat),l.length-k<=n->k<=l.length->k<=(Q2q l k).1/\(Q2q l k).1<=l.length:=by
 intro n;induction n with
 |zero =>
  intro k h hk;rw[Q8F l k (by omega)]
  simp only;omega
 |succ n ih =>
  intro k h hk;by_cases jA:k<l.length
  ·by_cases h1:l[k]=62
   ·rw[QeK l k jA h1];simp only;omega
   ·by_cases h2:l[k]=60
    ·rw[QdM l k jA h2];simp only;omega
    ·have:=ih (k+1) (by omega) (by omega)
     rw[Q9L l k jA h1 h2];omega
  ·rw[Q8F l k jA];simp only;omega
theorem Qec(l:List Int):∀(n k:Nat)(ok:Bool),l.length-k<=n->k<=l.length->k<=(Q2v l k ok).1/\(Q2v l k ok).1<=l.length:=by
 intro n;induction n with
 |zero =>
  intro k ok h hk;rw[Q4J l k ok (by omega)]
  simp only;omega
 |succ n ih =>
  intro k ok h hk;by_cases jA:k<l.length/\ok=true
  ·obtain⟨jA,rfl⟩:=jA
   by_cases h1:l[k]=62
   ·rw[Q8Q l k jA h1];simp only;omega
   ·cases h2:Q3k l[k]with
    |true =>
     have:=Q2C l k jA
     have:=ih (Q1a l k).1 (Q1a l k).2 (by omega) (by omega)
     rw[Q8V l k jA h1 h2];omega
    |false =>
     by_cases h3:l[k]=91
     ·have:=Q7D l k jA
      have:=ih (Q7A l k).1 (Q7A l k).2 (by omega) (by omega)
      rw[Q93 l k jA h3];omega
     ·have:=ih (k+1) true (by omega) (by omega)
      rw[Q7X l k jA h1 h2 h3];omega
  ·rw[Q4J l k ok jA];simp only;omega
theorem QbF(l:List Int)(k:Nat)(hk:k<l.length):k<(Q1H l k).2.1/\(Q1H l k).2.1<=l.length:=by
 unfold Q1H;split
 ·exact Q4m l _ k _ _ hk (by decide)
 ·split
  ·exact Q4m l _ k _ _ hk (by decide)
  ·split
   ·exact Q4m l _ k _ _ hk (by decide)
   ·split
    ·rename_i h
     have h9:=Q17 l k _ (by omega) h
     have h9:k+9<=l.length:=by simpa using h9
     have:=Qec l l.length (k+9) true (by omega) (by omega)
     unfold Q3E;simp only;omega
    ·split
     ·rename_i h
      have h2:=Q17 l k _ (by omega) h
      have h2:k+2<=l.length:=by simpa using h2
      have:=Qe9 l l.length (k+2) (by omega) (by omega)
      unfold Q3h;simp only;omega
     ·split
      ·have h:=Q38 l true l.length (k+1) (by omega) (by omega)
       unfold Q1D;split
       ·simp only;omega
       ·rename_i hb
        have:=h.2.2 (by simpa using hb)
        split<;>(simp only;omega)
      ·simp only;omega
theorem Q2E(l:List Int)(k:Nat)(hk:k<l.length):k<(Ql l k).2.1/\(Ql l k).2.1<=l.length:=by
 unfold Ql;rw[Q89 hk];split
 ·exact QbF l k hk
 ·split
  ·exact⟨QjE l k,QnJ l k hk⟩
  ·split
   ·simp only;omega
   ·rename_i h1 h2 h3
    have hp:Q1Q l[k]=true:=by simp[Q1Q,h1,h2,h3]
    have hs:=(List.takeWhile_sublist Q1Q (l:=l.drop k)).length_le;rw[List.length_drop]at hs;rw[List.drop_eq_getElem_cons hk,List.takeWhile_cons,hp]at hs ⊢;simp only[if_true,List.length_cons]at hs ⊢;omega
def Q4Z(l:List Int)(k:Nat):List ((Nat×Nat×Bool)×Nat):=if h:k<l.length then(Ql l k,k)::Q4Z l (Ql l k).2.1 else []
termination_by l.length-k
decreasing_by
 have:=Q2E l k h;omega
theorem QbC(l:List Int)(k:Nat)(h:k<l.length):Q4Z l k=(Ql l k,k)::Q4Z l (Ql l k).2.1:=by
 conv=>lhs;rw[Q4Z]
 rw[dif_pos h]
theorem Qdg(l:List Int)(k:Nat)(h:¬k<l.length):Q4Z l k=[]:=by rw[Q4Z,dif_neg h]
end
section
open Go.RowKit Go.Lib Tryz
theorem QgL:(prog.info? 162).map (·.size)=some 2:=by kernel_rfl
theorem Qmt:liesAt prog prog.depth 162 (2 / prog.cellsOf 162) 0 162 1=true:=by kernel_rfl
theorem Qdz:prog.cellsOf 5=1:=by kernel_rfl
theorem Qnc(b:Nat)(w:World)(h0:w.cell? ⟨b,0,none⟩=some (.pointer (some ⟨b,0,none⟩))) :
  Calls prog 128 #[.pointer (some ⟨b,0,none⟩)] w fun e w'=>e=.returned (.tuple #[])/\w'=w:=by
 obtain⟨j,hj,_⟩:=Option.map_eq_some_iff.1 QgL;go_enter func128,ntmps128
 go_wp2
 rw[Lib.run_neq_ptr_same w _ underlying160 hj];go_wp2
 go_end0
 exact⟨rfl,rfl⟩
theorem Qk5(b:Nat)(w:World)(h0:w.cell? ⟨b,0,none⟩=some (.pointer none))(hsh:w.shape? b=some (162,2))(hfz:w.frozen? ⟨b,0,none⟩=false) :
  Calls prog 128 #[.pointer (some ⟨b,0,none⟩)] w fun e w'=>e=.returned (.tuple #[])/\w'=w.setCell ⟨b,0,none⟩ (.pointer (some ⟨b,0,none⟩)):=by
 obtain⟨j,hj,hjs⟩:=Option.map_eq_some_iff.1 QgL;go_enter func128,ntmps128
 go_wp2
 rw[Lib.run_to_unsafe w ⟨b,0,none⟩ underlying160 underlying252 hj (by rw[hjs];decide) hsh (Nat.zero_lt_succ 1)]
 simp only[Result.andThen];rw[Oper.upon_value];go_wp2
 rw[run_callFunc_extern func160 (by kernel_rfl) (by kernel_rfl) (by kernel_rfl) (e:=Extern.AbiNoEscape.same) (by kernel_rfl)]
 rw[Lib.run_noEscape];simp only[Result.andThen];rw[Oper.upon_value];go_wp2
 rw[Lib.run_from_unsafe w ⟨b,0,none⟩ underlying252 underlying160 hj hsh Qmt];simp only[Result.andThen];rw[Oper.upon_value];go_wp2
 go_end0
 exact⟨rfl,rfl⟩
def Sb(B b:Nat)(xs:List UInt8)(w:World):Prop:=Lib.IsBuilder 162 5 B b (bc xs) w
theorem QoX(B b:Nat)(xs:List UInt8)(w:World)(h:Sb B b xs w) :
  Calls prog 128 #[.pointer (some ⟨b,0,none⟩)] w fun e w'=>e=.returned (.tuple #[])/\Lib.BuilderAt 162 5 B b (.pointer (some ⟨b,0,none⟩)) (bc xs) w'/\Below B w w'/\∀k,k≠b->w'.heap[k]?=w.heap[k]?:=by
 rcases h with h|h
 ·refine(Qk5 b w h.cell0 h.shape h.frozen0).mono ?_
  rintro e w' ⟨rfl,rfl⟩;exact⟨rfl,h.used _,(Below.refl B w).setCell (p:=⟨b,0,none⟩) h.1 _,fun k hk=>Below.heap_setCell _ _ _ _ hk⟩
 ·refine(Qnc b w h.cell0).mono ?_
  rintro e w' ⟨rfl,rfl⟩;exact⟨rfl,h,Below.refl B _,fun _ _=>rfl⟩
theorem QdV(S:Nat->Prop)(A:Option Addr)(n c B b:Nat)(xs ys:List UInt8)(w:World)(h:Sb B b xs w)(hr:Rd w S 1 A n c (bc ys))(hS:¬S b)(hlen:xs.length+ys.length<=1000000000)(hBw:B<=w.heap.size) :
  Calls prog 104 #[.pointer (some ⟨b,0,none⟩),.slice A n c] w fun e w'=>e=.returned (.tuple #[.int .i64 n,.nilIface])/\Sb B b (xs++ys) w'/\Below B w w':=by
 have hn:n=ys.length:=by have:=hr.len;simpa using this.symm
 subst hn;have HR:=hid hr;have hcm:c<=9223372036854775807:=hr.max;have hle:=hr.le;clear hr;go_enter func104,ntmps104
 go_wp2_with (go_at_call 128;refine(QoX B b xs w h).mono ?_);rintro e w1 ⟨rfl,h1,hb1,hk1⟩;obtain⟨hB,v,hbk,hown,hne⟩:=h1;have c0:w1.cell? ⟨b,0,none⟩=some (.pointer (some ⟨b,0,none⟩)):=by rw[cell_of_heap hbk];rfl
 have c1:w1.cell? ⟨b,1,none⟩=some v:=by rw[cell_of_heap hbk];rfl
 have HR1:=hid (HR.out.keep fun k hk _=>hk1 k (fun e=>hS (e ▸ hk)))
 have hs1:B<=w1.heap.size:=by have:=hb1.size;omega
 have hxl:(bc xs).length=xs.length:=by simp
 rw[hxl]at hown;obtain⟨A0,c2,rfl,hro⟩:=Q1C hown;have hc2m:c2<=9223372036854775807:=hro.max;have HO:=hid hown;clear hown hro hk1 HR h;go_wp2_with (at_builtin;refine Qdp _ rfl (.tmp 12) (.tmp 13) rfl B _ _ _ rfl HO.out S _ _ _ ys rfl HR1.out (by omega) hs1 ?_)
 intro A4 c4 w4 hown4 hg4 hc4
 have hlt:b<w1.heap.size:=by
  rcases Nat.lt_or_ge b w1.heap.size with h'|h'
  ·exact h'
  ·simp[Array.getElem?_eq_none h']at hbk
 have hb2:w4.heap[b]?=some (.cells #[.pointer (some ⟨b,0,none⟩),.slice A0 xs.length c2] 162 (0,0)):=by
  rw[hg4.block b hlt (fun e=>hne e.symm)]
  exact hbk
 have d0:w4.cell? ⟨b,0,none⟩=some (.pointer (some ⟨b,0,none⟩)):=by rw[cell_of_heap hb2];rfl
 have d1:w4.cell? ⟨b,1,none⟩=some (.slice A0 xs.length c2):=by rw[cell_of_heap hb2];rfl
 have f1:w4.frozen? ⟨b,1,none⟩=false:=Lib.frozen_of_heap hb2 1;have HB4:=hid (Q5O hb1 hs1 HO.out hg4);have HO4:=hid hown4;clear hown4 hg4;go_wp2
 go_ret2
 refine⟨rfl,.inr ?_,HB4.out.setCell (p:=⟨b,1,none⟩) hB _⟩;exact Lib.BuilderAt.put hB hb2 (by simpa[bc]using HO4.out) (by decide)
theorem Qdy(B b:Nat)(l:List UInt8)(w:World)(h:Sb B b l w)(h0:l≠[]) :
  Calls prog 79 #[.pointer (some ⟨b,0,none⟩)] w fun e w'=>e=.returned (.string ⟨l.toArray⟩)/\Below B w w':=by
 obtain⟨p,hB,v,hbk,hown,hne⟩:∃p,Lib.BuilderAt 162 5 B b p (bc l) w:=by
  rcases h with h|h
  ·exact⟨_,h⟩
  ·exact⟨_,h⟩
 have hl0:l.length≠0:=by simpa using h0
 have hxl:(bc l).length=l.length:=by simp
 rw[hxl]at hown
 obtain⟨g,cap,cur,rfl,hbg,hg,hnc,hcm,hcs,htake⟩:∃g cap cur,v=.slice (some ⟨g,0,none⟩) l.length cap/\B<=g/\w.heap[g]?=some (.cells cur 5 (0,0))/\l.length<=cap/\cap<=maxLen/\cur.size=cap * 1/\cur.toList.take (l.length * 1)=bc l:=by
  rcases hown.2 with ⟨_,hz⟩|⟨g,cap,cur,hv,r⟩
  ·exact absurd hz hl0
  ·exact⟨g,cap,cur,hv,r⟩
 have c1:w.drew.cell? ⟨b,1,none⟩=some (.slice (some ⟨g,0,none⟩) l.length cap):=by
  have:w.drew.heap[b]?=some (.cells #[p,.slice (some ⟨g,0,none⟩) l.length cap] 162 (0,0)):=hbk
  rw[cell_of_heap this];rfl
 have hSD:(Builtin.unsafeSliceData_ #[22] 225 #[.slice (some ⟨g,0,none⟩) l.length cap]).run prog w.drew=.ok (.pointer (some ⟨g,0,none⟩)) w.drew :=
  Lib.run_unsafeSliceData_row _ _ _ _ _ _ (by omega)
 have hUS:(Builtin.unsafeString_ #[225,3] 9 #[.pointer (some ⟨g,0,none⟩),.int .i64 l.length]).run prog w.drew=.ok (.string ⟨l.toArray⟩) (w.drew.freeze ⟨g,0,none⟩ l.length):=by
  refine Lib.run_unsafeString_row w.drew 225 3 9 5 underlying225 Qdz g cur.size (by have hg':w.drew.heap[g]?=some (.cells cur 5 (0,0)):=hg;simp[World.shape?,hg']) l h0 (by omega) (by unfold maxLen at hcm;omega) ?_
  intro j x hx;have:=hown.cells (g:=g) rfl j (.int .u8 x.toNat) (by simp[bc,hx])
  exact this
 go_enter func79,ntmps79
 go_wp2
 go_region
 all_goals (go_wp2;go_ret;exact⟨rfl,Lib.below_freeze (Below.drew (Below.refl B w)) (p:=⟨g,0,none⟩) hbg _⟩)
def Q3Q(l:List Int):List UInt8:=l.flatMap fun x=>if x=-1 then []else Q10 [x]
theorem Qix(l:List Int){k:Nat}(h:k<l.length):Q3Q (l.take (k+1))=Q3Q (l.take k)++(if l[k]=-1 then []else Q10 [l[k]]):=by
 rw[Q3Q,Q3Q,List.take_succ_eq_append_getElem h,List.flatMap_append];simp
theorem Qba(l:List Int):(Q3Q l).length<=4 * l.length:=by
 induction l with
 |nil=>exact zero_le _
 |cons x r ih =>
  have h1:(if x=-1 then([]:List UInt8)else Q10 [x]).length<=4:=by
   split
   ·exact zero_le _
   ·have:=Q7T [x];simpa using this
  have e:Q3Q (x::r)=(if x=-1 then []else Q10 [x])++Q3Q r:=rfl;rw[e,List.length_append,List.length_cons];omega
theorem Sb.below{B b:Nat}{xs:List UInt8}{w w':World}(h:Sb B b xs w)(hb:Below w.heap.size w w'):Sb B b xs w':=by
 have key:∀p,Lib.BuilderAt 162 5 B b p (bc xs) w->Lib.BuilderAt 162 5 B b p (bc xs) w':=by
  rintro p ⟨hB,v,hbk,hown,hne⟩;have hlt:b<w.heap.size:=Lib.BuilderAt.lt ⟨hB,v,hbk,hown,hne⟩;exact⟨hB,v,by rw[hb.block b hlt];exact hbk,QbR hown hb,hne⟩
 exact h.imp (key _) (key _)
theorem Sb.lt{B b:Nat}{xs:List UInt8}{w:World}(h:Sb B b xs w):b<w.heap.size:=by
 rcases h with h|h
 ·exact h.lt
 ·exact h.lt
theorem QmH(A:Option Addr)(n c i j:Nat)(w:World)(hij:i<=j)(hj:j<=n) :
  Calls prog 103 #[.agg #[.int .i64 0,.int .i64 0,.slice A n c,.slice none 0 0],.int .i64 i,.int .i64 j] w fun e w'=>e=.returned (.bool true)/\Below w.heap.size w w':=by
 go_enter func103,ntmps103
 go_wp2
 go_ret
 exact⟨rfl,(Below.refl _ w).alloc (le_refl _) _⟩
theorem Qe6(S:Nat->Prop)(A:Option Addr)(n c:Nat)(l:List Int)(i j:Nat)(w:World)(hr:Rd w S 1 A n c (rc l))(hij:i<=j)(hj:j<=l.length)(hl:l.length<=1000000)(hne:Q3Q ((l.drop i).take (j-i))≠[]) :
  Calls prog 50 #[.agg #[.int .i64 0,.int .i64 0,.slice A n c,.slice none 0 0],.int .i64 i,.int .i64 j] w fun e w'=>e=.returned (.string ⟨(Q3Q ((l.drop i).take (j-i))).toArray⟩)/\Below w.heap.size w w':=by
 obtain rfl:=hr.rlen;have hle:=hr.le;have hmx:c<=9223372036854775807:=hr.max;obtain⟨A2,hr2,hcut⟩:=hr.cutLH (P:=prog) (t:=26) underlying26 sizeOf21 hij hj;have hrc:((rc l).drop (i * 1)).take ((j-i) * 1)=rc ((l.drop i).take (j-i)):=by simp[rc,List.map_take,List.map_drop]
 rw[hrc]at hr2;obtain⟨s,hs⟩:∃s,s=(l.drop i).take (j-i):=⟨_,rfl⟩;rw[<-hs]at hr2 hne ⊢;have hsl:s.length=j-i:=by rw[hs,List.length_take,List.length_drop];omega
 have HR:=hid hr2;have HC:=hid hcut;clear hr hr2 hrc hs hcut;go_enter func50,ntmps50
 go_wp2_with (go_at_call 103;refine(QmH _ _ _ _ _ _ hij hj).mono ?_);rintro e w1 ⟨rfl,hb1⟩;have HB1:=hid (bt (ba w _) hb1);have hc0:w1.cell? ⟨w.heap.size,2,none⟩=some (.slice A l.length c):=Q7h hb1 (QkR w _ _ 2 rfl);have hlt0:w.heap.size<w1.heap.size:=World.block_lt_of_cell? w1 _ hc0;have hc1:(w1.alloc (.cells #[.pointer none,.slice none 0 0] 162)).cell? ⟨w.heap.size,2,none⟩=some (.slice A l.length c):=Q7h ((Below.refl _ w1).alloc (le_refl _) _) hc0;have HSB:Hid (Sb w1.heap.size w1.heap.size [] (w1.alloc (.cells #[.pointer none,.slice none 0 0] 162))):=Lib.fresh_isBuilder 162 5 w1;have hcut:=HC.out;clear hb1 hc0;go_wp2
 clear hcut
 go_loopw [21] (fun q wr=>∃(k:Nat),k<=s.length/\q=.int .i64 k/\Hid (Sb w1.heap.size w1.heap.size (Q3Q (s.take k)) wr)/\Hid (Below w1.heap.size w1 wr))
  (fun q _=>s.length-(intOf q).toNat)
 case atStart=>exact⟨0,zero_le _,rfl,HSB.out,ba w1 _⟩
 case round =>
  obtain⟨k,hk,rfl,HO,HB⟩:=hrel;have hsz:=HB.out.size;have hblt:=HO.out.lt;have hfl:=Qba (s.take k);rw[List.length_take]at hfl;by_cases hlt:k<s.length
  ·obtain⟨b,u,rfl,hc2⟩:=(HR.out.below (bt HB1.out HB.out)).rune hlt
   have HST:=hid (Qix s hlt);generalize s[k]=r at hc2 HST;by_cases hb:r=-1
   ·have hS2:Q3Q (s.take (k+1))=Q3Q (s.take k):=by rw[HST.out,if_pos hb,List.append_nil]
    have HST2:=hid hS2;clear HST hS2;subst hb;go_wp2
    go_roundw
    case rel=>exact⟨k+1,by omega,by go_num,by rw[HST2.out];exact HO.out,HB.out⟩
    case measure=>simp[intOf];omega
   ·have hS2:Q3Q (s.take (k+1))=Q3Q (s.take k)++Q10 [r]:=by rw[HST.out,if_neg hb]
    have HST2:=hid hS2;clear HST hS2;have hbl:=Q7T [r];simp only[List.length_singleton]at hbl;have hsa:(wr.alloc (.cells #[.int .i32 r] 21)).heap.size=wr.heap.size+1:=by simp
    go_wp2_with fail
    refine(Qi5 _ _ 1 1 [r] _ (Rd.litN wr wr.heap.size rfl _ #[.int .i32 r] 1 1 rfl (by decide)) (by simp)).mono ?_
    rintro e w2 ⟨v,rfl,⟨n2,hown⟩,hb2⟩;have hn2:=QaG hown;obtain⟨A3,c3,rfl,hro⟩:=Q1C hown;have HO2:=hid ((HO.out.below (ba wr _)).below hb2);have HB2:=hid (bb (bb HB.out (ba wr _) hsz) hb2 (by omega))
    have hsz2:=HB2.out.size;have HRO:=hid hro;have hc3:c3<=9223372036854775807:=hro.max;subst hn2;clear hown hb2 hro;go_wp2_with fail
    refine(QdV _ A3 _ c3 w1.heap.size w1.heap.size (Q3Q (s.take k)) (Q10 [r]) w2 HO2.out HRO.out (by omega) (by omega) hsz2).mono ?_
    rintro e w3 ⟨rfl,h3,hb3⟩;have HO3:=hid h3;have HB3:=hid (HB2.out.trans hb3);clear h3 hb3;go_wp2
    go_roundw
    case rel=>exact⟨k+1,by omega,by go_num,by rw[HST2.out];exact HO3.out,HB3.out⟩
    case measure=>simp[intOf];omega
  ·have e:s.take k=s:=List.take_of_length_le (by omega)
   rw[e]at HO;go_wp2_with fail
   refine(Qdy w1.heap.size w1.heap.size (Q3Q s) wr HO.out hne).mono ?_;rintro e w3 ⟨rfl,hb3⟩;have HB3:=hid (HB.out.trans hb3);clear hb3;go_wp2
   go_ret
   exact⟨rfl,HB1.out.trans (HB3.out.mono HB1.out.size)⟩
end
section
open Go.RowKit Tryz
def QaF(r:Int):Bool:=r == 9||r == 10||r == 13||r == 32
theorem Qg5(r:Int):QaF r=Qd r:=by
 unfold QaF Qd;cases(r == 9)<;>cases(r == 10)<;>cases(r == 13)<;>cases(r == 32)<;>rfl
theorem Qgp(r:Int)(w:World):Calls prog 187 #[.int .i32 r] w fun e w'=>e=.returned (.bool (Qd r))/\w=w':=by
 rw[<-Qg5];go_enter func187,ntmps187
 go_wp2
 all_goals (go_ret;exact⟨QR (by simp[QaF, *]),rfl⟩)
end
section
open Go.RowKit Go.Lib
theorem Rd.setB{w:World}{S:Nat->Prop}{n c:Nat}{xs:List Value}{b o:Nat}(h:Rd w S 1 (some ⟨b,o,none⟩) n c xs){k:Nat}(hk:k<n)(v:Value) :
  Rd (w.setCell ⟨b,o+k,none⟩ v) S 1 (some ⟨b,o,none⟩) n c (xs.set k v):=by
 have jE:=h.len;refine⟨by simpa using h.len,h.le,h.max,(fun e=>by cases e),fun h0=>?_⟩
 obtain⟨b',o',e,hS,hc⟩:=h.at_ h0;injection e with e
 injection e with e1 e2
 subst e1 e2;refine⟨b,o,rfl,hS,fun j u hu=>?_⟩
 have qX:k<xs.length:=by omega
 by_cases hj:k=j
 ·subst hj
  rw[List.getElem?_set_self qX]at hu;injection hu with hu
  subst hu;exact World.cell?_setCell_same _ _ _ (hc k _ (List.getElem?_eq_getElem qX))
 ·rw[List.getElem?_set_ne hj]at hu
  rw[World.cell?_setCell_other]
  ·exact hc j u hu
  ·intro e
   injection e with _ e
   omega
