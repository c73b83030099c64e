/-
  Parts of the proof, joined: LxE LxF NormC LexG LexH. Conditions: as each theorem says.
-/
import Derived.Test.YthbjpdijafccjaaGreatQE01
import Derived.Lib.Bytealg
set_option maxRecDepth 100000
set_option maxHeartbeats 8000000
namespace Go.Proofs.YthbjpdijafccjaaGreat
open Go.RowKit Go.Lib Tryz
theorem Qi5 {P:Program}{T:TypeId}{d:TypeDesc}(w:World)(vs:List Value)(hi:(P.info? T).map (·.size)=some vs.length)(hu:P.underlying T=some d)(hd:d.isRow=true) :
  (loadVar T ⟨w.heap.size,0,none⟩).run P (w.alloc (.cells vs.toArray T))=.ok (.agg vs.toArray) (w.alloc (.cells vs.toArray T)) :=
 run_loadVar_mid (P:=P) _ w.heap.size 0 T vs d (fun j v hv=>by
  rw[World.cell?_alloc_at _ _ _ _ rfl,Nat.zero_add]
  simpa using hv) hu hd hi
theorem QX (l:List Int)(k:Nat)(bs:List UInt8)(hk:k≤l.length)(h:Q3 l k bs=true):k+bs.length≤l.length:=by
 by_cases hn:l.length<k+bs.length
 ·rw[Q5J l k bs hn hk] at h;cases h
 ·omega
theorem Qet (S:Nat→Prop)(A:Option Addr)(n c:Nat)(l:List Int)(k:Nat)(w:World)(hr:Rd w S 1 A n c (rc l))(hk:k<l.length)(hl9:l.length≤1000000000) :
  Calls prog 73 #[.slice A n c,.int .i64 k] w fun e w'=>e=.returned (Q20 (Q1D l k) k)∧Below w.heap.size w w':=by
 obtain rfl:=hr.rlen
 have hle:=hr.le
 have hmx:c≤9223372036854775807:=hr.max
 have HR:=Lib.hid hr
 have HSa:∀ W,Below w.heap.size w W→Hid (Calls prog 96 #[.slice A l.length c,.int .i64 k,.string ⟨#[60,33,45,45]⟩] W fun e w'=>e=.returned (.bool (Q3 l k [60,33,45,45]))∧Below W.heap.size W w') :=
  fun W h=>Q21 S A l.length c l k ⟨#[60,33,45,45]⟩ W (HR.out.below h) (by omega) hl9 (by decide)
 have HSb:∀ W,Below w.heap.size w W→Hid (Calls prog 96 #[.slice A l.length c,.int .i64 k,.string ⟨#[60,33,91,67,68,65,84,65,91]⟩] W fun e w'=>e=.returned (.bool (Q3 l k [60,33,91,67,68,65,84,65,91]))∧Below W.heap.size W w') :=
  fun W h=>Q21 S A l.length c l k ⟨#[60,33,91,67,68,65,84,65,91]⟩ W (HR.out.below h) (by omega) hl9 (by decide)
 have HSc:∀ W,Below w.heap.size w W→Hid (Calls prog 96 #[.slice A l.length c,.int .i64 k,.string ⟨#[60,63]⟩] W fun e w'=>e=.returned (.bool (Q3 l k [60,63]))∧Below W.heap.size W w') :=
  fun W h=>Q21 S A l.length c l k ⟨#[60,63]⟩ W (HR.out.below h) (by omega) hl9 (by decide)
 have HSd:∀ W,Below w.heap.size w W→Hid (Calls prog 96 #[.slice A l.length c,.int .i64 k,.string ⟨#[60,33,68,79,67,84,89,80,69]⟩] W fun e w'=>e=.returned (.bool (Q3 l k [60,33,68,79,67,84,89,80,69]))∧Below W.heap.size W w') :=
  fun W h=>Q21 S A l.length c l k ⟨#[60,33,68,79,67,84,89,80,69]⟩ W (HR.out.below h) (by omega) hl9 (by decide)
 have HSe:∀ W,Below w.heap.size w W→Hid (Calls prog 96 #[.slice A l.length c,.int .i64 k,.string ⟨#[60,47]⟩] W fun e w'=>e=.returned (.bool (Q3 l k [60,47]))∧Below W.heap.size W w') :=
  fun W h=>Q21 S A l.length c l k ⟨#[60,47]⟩ W (HR.out.below h) (by omega) hl9 (by decide)
 have HUa:∀ W,Below w.heap.size w W→Hid (Calls prog 97 #[.slice A l.length c,.int .i64 4,.int .i64 k,.int .i64 4,.string ⟨#[45,45,62]⟩] W fun e w'=>e=.returned (.agg #[.int .i64 (Q17 l 4 k 4 [45,45,62]).1,.int .i64 k,.int .i64 (Q17 l 4 k 4 [45,45,62]).2.1,.bool (Q17 l 4 k 4 [45,45,62]).2.2])∧Below W.heap.size W w') :=
  fun W h=>Q5W S A l.length c l 4 k 4 ⟨#[45,45,62]⟩ W (HR.out.below h) (by omega) (by decide) hl9 (by decide)
 have HUb:∀ W,Below w.heap.size w W→Hid (Calls prog 97 #[.slice A l.length c,.int .i64 6,.int .i64 k,.int .i64 9,.string ⟨#[93,93,62]⟩] W fun e w'=>e=.returned (.agg #[.int .i64 (Q17 l 6 k 9 [93,93,62]).1,.int .i64 k,.int .i64 (Q17 l 6 k 9 [93,93,62]).2.1,.bool (Q17 l 6 k 9 [93,93,62]).2.2])∧Below W.heap.size W w') :=
  fun W h=>Q5W S A l.length c l 6 k 9 ⟨#[93,93,62]⟩ W (HR.out.below h) (by omega) (by decide) hl9 (by decide)
 have HUc:∀ W,Below w.heap.size w W→Hid (Calls prog 97 #[.slice A l.length c,.int .i64 5,.int .i64 k,.int .i64 2,.string ⟨#[63,62]⟩] W fun e w'=>e=.returned (.agg #[.int .i64 (Q17 l 5 k 2 [63,62]).1,.int .i64 k,.int .i64 (Q17 l 5 k 2 [63,62]).2.1,.bool (Q17 l 5 k 2 [63,62]).2.2])∧Below W.heap.size W w') :=
  fun W h=>Q5W S A l.length c l 5 k 2 ⟨#[63,62]⟩ W (HR.out.below h) (by omega) (by decide) hl9 (by decide)
 have HUd:Q3 l k [60,33,68,79,67,84,89,80,69]=true→∀ W,Below w.heap.size w W→Hid (Calls prog 98 #[.slice A l.length c,.int .i64 k] W fun e w'=>e=.returned (.agg #[.int .i64 (Q3G l k).1,.int .i64 k,.int .i64 (Q3G l k).2.1,.bool (Q3G l k).2.2])∧Below W.heap.size W w') :=
  fun hs W h=>QbF S A l.length c l k W (HR.out.below h) (by have:=QX l k _ (by omega) hs;simpa using this) hl9
 have HUe:Q3 l k [60,47]=true→∀ W,Below w.heap.size w W→Hid (Calls prog 99 #[.slice A l.length c,.int .i64 k] W fun e w'=>e=.returned (.agg #[.int .i64 (Q3m l k).1,.int .i64 k,.int .i64 (Q3m l k).2.1,.bool (Q3m l k).2.2])∧Below W.heap.size W w') :=
  fun hs W h=>Qja S A l.length c l k W (HR.out.below h) (by have:=QX l k _ (by omega) hs;simpa using this) hl9
 have HUf:∀ W,Below w.heap.size w W→Hid (Calls prog 101 #[.slice A l.length c,.int .i64 k] W fun e w'=>e=.returned (.agg #[.int .i64 (Q1A l k).1,.int .i64 k,.int .i64 (Q1A l k).2.1,.bool (Q1A l k).2.2])∧Below W.heap.size W w') :=
  fun W h=>QeD S A l.length c l k W (HR.out.below h) hk hl9
 have HLD:∀ W,Below w.heap.size w W→Hid (Calls prog 100 #[.slice A l.length c,.int .i64 ((k:Int)+1)] W fun e w'=>e=.returned (.int .i64 (Qg l (k+1)))∧Below W.heap.size W w'):=fun W h=>by
  rw[show ((k:Int)+1)=((k+1:Nat):Int) by omega]
  exact Q7X S A l.length c l (k+1) W (HR.out.below h) (by omega)
 have HT:Hid (Q1D l k=if Q3 l k [60,33,45,45]=true then Q17 l 4 k 4 [45,45,62]
  else if Q3 l k [60,33,91,67,68,65,84,65,91]=true then Q17 l 6 k 9 [93,93,62]
  else if Q3 l k [60,63]=true then Q17 l 5 k 2 [63,62]
  else if Q3 l k [60,33,68,79,67,84,89,80,69]=true then Q3G l k
  else if Q3 l k [60,47]=true then Q3m l k
  else if 0<Qg l (k+1) then Q1A l k
  else (11,k+1,false)):=rfl
 clear hr
 generalize Q1D l k=t at HT ⊢
 generalize Q3 l k [60,33,45,45]=sa at HSa HT
 generalize Q3 l k [60,33,91,67,68,65,84,65,91]=sb at HSb HT
 generalize Q3 l k [60,63]=sc at HSc HT
 generalize Q3 l k [60,33,68,79,67,84,89,80,69]=sd at HSd HT HUd
 generalize Q3 l k [60,47]=se at HSe HT HUe
 generalize Q17 l 4 k 4 [45,45,62]=ua at HUa HT
 generalize Q17 l 6 k 9 [93,93,62]=ub at HUb HT
 generalize Q17 l 5 k 2 [63,62]=uc at HUc HT
 generalize Q3G l k=ud at HUd HT
 generalize Q3m l k=ue at HUe HT
 generalize Q1A l k=uf at HUf HT
 generalize Qg l (k+1)=ld at HLD HT
 obtain⟨kka,tta,wwa⟩:=ua
 obtain⟨kkb,ttb,wwb⟩:=ub
 obtain⟨kkc,ttc,wwc⟩:=uc
 obtain⟨kkd,ttd,wwd⟩:=ud
 obtain⟨kke,tte,wwe⟩:=ue
 obtain⟨kkf,ttf,wwf⟩:=uf
 go_enter func73,ntmps73
 go_wp2_with fail
 have HTH0:=Lib.hid (Q2A w #[.int .i64 0,.int .i64 0,.int .i64 0,.bool false] 95)
 have HB0:=Lib.hid (ba w (.cells #[.int .i64 0,.int .i64 0,.int .i64 0,.bool false] 95))
 have HSZ:Hid (w.heap.size<(w.alloc (.cells #[.int .i64 0,.int .i64 0,.int .i64 0,.bool false] 95)).heap.size):=by simp[Hid]
 generalize w.alloc (.cells #[.int .i64 0,.int .i64 0,.int .i64 0,.bool false] 95)=W0 at HTH0 HB0 HSZ
 have HTH0:Hid (W0.there w.heap.size 0 4):=HTH0.out
 refine (HSa _ HB0.out).out.mono ?_
 rintro e va ⟨rfl,hb⟩
 have HBa:=Lib.hid (HB0.out.trans (hb.mono HB0.out.size))
 have HTHa:Hid (va.there w.heap.size 0 4):=QH HTH0.out hb HSZ.out
 have HLTa:Hid (w.heap.size<va.heap.size):=Nat.lt_of_lt_of_le HSZ.out hb.size
 clear hb HSa
 cases sa with
 |true =>
  have HE:Hid (t=(kka,tta,wwa)):=HT.out
  clear HT
  go_wp2_with fail
  refine (HUa _ HBa.out).out.mono ?_
  rintro e xa ⟨rfl,hb⟩
  have HBx:=Lib.hid (HBa.out.trans (hb.mono HBa.out.size))
  have HTHx:Hid (xa.there w.heap.size 0 4):=QH HTHa.out hb HLTa.out
  clear hb
  have HL9:=Lib.hid (Qz (P:=prog) (T:=95) xa w.heap.size [.int .i64 kka,.int .i64 k,.int .i64 (tta),.bool wwa] HTHx.out (by kernel_rfl) underlying95 rfl)
  have HB9:=Lib.hid (Qf HBx.out w.heap.size (Nat.le_refl _) [.int .i64 kka,.int .i64 k,.int .i64 (tta),.bool wwa] 0)
  obtain⟨⟨z0,hz0⟩,hf0⟩:=Q6 HTHx.out 0 (by decide)
  obtain⟨⟨z1,hz1⟩,hf1⟩:=Q6 HTHx.out 1 (by decide)
  obtain⟨⟨z2,hz2⟩,hf2⟩:=Q6 HTHx.out 2 (by decide)
  obtain⟨⟨z3,hz3⟩,hf3⟩:=Q6 HTHx.out 3 (by decide)
  go_wp2
  refine bodyPost_ret (Qr rfl _ rfl HL9.out) rfl ?_
  rw[HE.out]
  exact⟨rfl,HB9.out⟩
 |false =>
  go_wp2_with fail
  refine (HSb _ HBa.out).out.mono ?_
  rintro e vb ⟨rfl,hb⟩
  have HBb:=Lib.hid (HBa.out.trans (hb.mono HBa.out.size))
  have HTHb:Hid (vb.there w.heap.size 0 4):=QH HTHa.out hb HLTa.out
  have HLTb:Hid (w.heap.size<vb.heap.size):=Nat.lt_of_lt_of_le HLTa.out hb.size
  clear hb HSb
  cases sb with
  |true =>
   have HE:Hid (t=(kkb,ttb,wwb)):=HT.out
   clear HT
   go_wp2_with fail
   refine (HUb _ HBb.out).out.mono ?_
   rintro e xb ⟨rfl,hb⟩
   have HBx:=Lib.hid (HBb.out.trans (hb.mono HBb.out.size))
   have HTHx:Hid (xb.there w.heap.size 0 4):=QH HTHb.out hb HLTb.out
   clear hb
   have HL9:=Lib.hid (Qz (P:=prog) (T:=95) xb w.heap.size [.int .i64 kkb,.int .i64 k,.int .i64 (ttb),.bool wwb] HTHx.out (by kernel_rfl) underlying95 rfl)
   have HB9:=Lib.hid (Qf HBx.out w.heap.size (Nat.le_refl _) [.int .i64 kkb,.int .i64 k,.int .i64 (ttb),.bool wwb] 0)
   obtain⟨⟨z0,hz0⟩,hf0⟩:=Q6 HTHx.out 0 (by decide)
   obtain⟨⟨z1,hz1⟩,hf1⟩:=Q6 HTHx.out 1 (by decide)
   obtain⟨⟨z2,hz2⟩,hf2⟩:=Q6 HTHx.out 2 (by decide)
   obtain⟨⟨z3,hz3⟩,hf3⟩:=Q6 HTHx.out 3 (by decide)
   go_wp2
   refine bodyPost_ret (Qr rfl _ rfl HL9.out) rfl ?_
   rw[HE.out]
   exact⟨rfl,HB9.out⟩
  |false =>
   go_wp2_with fail
   refine (HSc _ HBb.out).out.mono ?_
   rintro e vc ⟨rfl,hb⟩
   have HBc:=Lib.hid (HBb.out.trans (hb.mono HBb.out.size))
   have HTHc:Hid (vc.there w.heap.size 0 4):=QH HTHb.out hb HLTb.out
   have HLTc:Hid (w.heap.size<vc.heap.size):=Nat.lt_of_lt_of_le HLTb.out hb.size
   clear hb HSc
   cases sc with
   |true =>
    have HE:Hid (t=(kkc,ttc,wwc)):=HT.out
    clear HT
    go_wp2_with fail
    refine (HUc _ HBc.out).out.mono ?_
    rintro e xc ⟨rfl,hb⟩
    have HBx:=Lib.hid (HBc.out.trans (hb.mono HBc.out.size))
    have HTHx:Hid (xc.there w.heap.size 0 4):=QH HTHc.out hb HLTc.out
    clear hb
    have HL9:=Lib.hid (Qz (P:=prog) (T:=95) xc w.heap.size [.int .i64 kkc,.int .i64 k,.int .i64 (ttc),.bool wwc] HTHx.out (by kernel_rfl) underlying95 rfl)
    have HB9:=Lib.hid (Qf HBx.out w.heap.size (Nat.le_refl _) [.int .i64 kkc,.int .i64 k,.int .i64 (ttc),.bool wwc] 0)
    obtain⟨⟨z0,hz0⟩,hf0⟩:=Q6 HTHx.out 0 (by decide)
    obtain⟨⟨z1,hz1⟩,hf1⟩:=Q6 HTHx.out 1 (by decide)
    obtain⟨⟨z2,hz2⟩,hf2⟩:=Q6 HTHx.out 2 (by decide)
    obtain⟨⟨z3,hz3⟩,hf3⟩:=Q6 HTHx.out 3 (by decide)
    go_wp2
    refine bodyPost_ret (Qr rfl _ rfl HL9.out) rfl ?_
    rw[HE.out]
    exact⟨rfl,HB9.out⟩
   |false =>
    go_wp2_with fail
    refine (HSd _ HBc.out).out.mono ?_
    rintro e vd ⟨rfl,hb⟩
    have HBd:=Lib.hid (HBc.out.trans (hb.mono HBc.out.size))
    have HTHd:Hid (vd.there w.heap.size 0 4):=QH HTHc.out hb HLTc.out
    have HLTd:Hid (w.heap.size<vd.heap.size):=Nat.lt_of_lt_of_le HLTc.out hb.size
    clear hb HSd
    cases sd with
    |true =>
     have HE:Hid (t=(kkd,ttd,wwd)):=HT.out
     clear HT
     go_wp2_with fail
     refine (HUd (by first|trivial|rfl) _ HBd.out).out.mono ?_
     rintro e xd ⟨rfl,hb⟩
     have HBx:=Lib.hid (HBd.out.trans (hb.mono HBd.out.size))
     have HTHx:Hid (xd.there w.heap.size 0 4):=QH HTHd.out hb HLTd.out
     clear hb
     have HL9:=Lib.hid (Qz (P:=prog) (T:=95) xd w.heap.size [.int .i64 kkd,.int .i64 k,.int .i64 (ttd),.bool wwd] HTHx.out (by kernel_rfl) underlying95 rfl)
     have HB9:=Lib.hid (Qf HBx.out w.heap.size (Nat.le_refl _) [.int .i64 kkd,.int .i64 k,.int .i64 (ttd),.bool wwd] 0)
     obtain⟨⟨z0,hz0⟩,hf0⟩:=Q6 HTHx.out 0 (by decide)
     obtain⟨⟨z1,hz1⟩,hf1⟩:=Q6 HTHx.out 1 (by decide)
     obtain⟨⟨z2,hz2⟩,hf2⟩:=Q6 HTHx.out 2 (by decide)
     obtain⟨⟨z3,hz3⟩,hf3⟩:=Q6 HTHx.out 3 (by decide)
     go_wp2
     refine bodyPost_ret (Qr rfl _ rfl HL9.out) rfl ?_
     rw[HE.out]
     exact⟨rfl,HB9.out⟩
    |false =>
     go_wp2_with fail
     refine (HSe _ HBd.out).out.mono ?_
     rintro e ve ⟨rfl,hb⟩
     have HBe:=Lib.hid (HBd.out.trans (hb.mono HBd.out.size))
     have HTHe:Hid (ve.there w.heap.size 0 4):=QH HTHd.out hb HLTd.out
     have HLTe:Hid (w.heap.size<ve.heap.size):=Nat.lt_of_lt_of_le HLTd.out hb.size
     clear hb HSe
     cases se with
     |true =>
      have HE:Hid (t=(kke,tte,wwe)):=HT.out
      clear HT
      go_wp2_with fail
      refine (HUe (by first|trivial|rfl) _ HBe.out).out.mono ?_
      rintro e xe ⟨rfl,hb⟩
      have HBx:=Lib.hid (HBe.out.trans (hb.mono HBe.out.size))
      have HTHx:Hid (xe.there w.heap.size 0 4):=QH HTHe.out hb HLTe.out
      clear hb
      have HL9:=Lib.hid (Qz (P:=prog) (T:=95) xe w.heap.size [.int .i64 kke,.int .i64 k,.int .i64 (tte),.bool wwe] HTHx.out (by kernel_rfl) underlying95 rfl)
      have HB9:=Lib.hid (Qf HBx.out w.heap.size (Nat.le_refl _) [.int .i64 kke,.int .i64 k,.int .i64 (tte),.bool wwe] 0)
      obtain⟨⟨z0,hz0⟩,hf0⟩:=Q6 HTHx.out 0 (by decide)
      obtain⟨⟨z1,hz1⟩,hf1⟩:=Q6 HTHx.out 1 (by decide)
      obtain⟨⟨z2,hz2⟩,hf2⟩:=Q6 HTHx.out 2 (by decide)
      obtain⟨⟨z3,hz3⟩,hf3⟩:=Q6 HTHx.out 3 (by decide)
      go_wp2
      refine bodyPost_ret (Qr rfl _ rfl HL9.out) rfl ?_
      rw[HE.out]
      exact⟨rfl,HB9.out⟩
     |false =>
      go_wp2_with fail
      refine (HLD _ HBe.out).out.mono ?_
      rintro e vf ⟨rfl,hb⟩
      have HBf:=Lib.hid (HBe.out.trans (hb.mono HBe.out.size))
      have HTHf:Hid (vf.there w.heap.size 0 4):=QH HTHe.out hb HLTe.out
      have HLTf:Hid (w.heap.size<vf.heap.size):=Nat.lt_of_lt_of_le HLTe.out hb.size
      clear hb HLD
      by_cases hl0:0<ld
      ·have hl0i:(ld:Int) > 0:=by omega
       have HE:Hid (t=(kkf,ttf,wwf)):=by rw[Hid,HT.out];simp[hl0]
       clear HT
       go_wp2_with fail
       refine (HUf _ HBf.out).out.mono ?_
       rintro e xf ⟨rfl,hb⟩
       have HBx:=Lib.hid (HBf.out.trans (hb.mono HBf.out.size))
       have HTHx:Hid (xf.there w.heap.size 0 4):=QH HTHf.out hb HLTf.out
       clear hb
       have HL9:=Lib.hid (Qz (P:=prog) (T:=95) xf w.heap.size [.int .i64 kkf,.int .i64 k,.int .i64 (ttf),.bool wwf] HTHx.out (by kernel_rfl) underlying95 rfl)
       have HB9:=Lib.hid (Qf HBx.out w.heap.size (Nat.le_refl _) [.int .i64 kkf,.int .i64 k,.int .i64 (ttf),.bool wwf] 0)
       obtain⟨⟨z0,hz0⟩,hf0⟩:=Q6 HTHx.out 0 (by decide)
       obtain⟨⟨z1,hz1⟩,hf1⟩:=Q6 HTHx.out 1 (by decide)
       obtain⟨⟨z2,hz2⟩,hf2⟩:=Q6 HTHx.out 2 (by decide)
       obtain⟨⟨z3,hz3⟩,hf3⟩:=Q6 HTHx.out 3 (by decide)
       go_wp2
       refine bodyPost_ret (Qr rfl _ rfl HL9.out) rfl ?_
       rw[HE.out]
       exact⟨rfl,HB9.out⟩
      ·have hl0i:¬ (ld:Int) > 0:=by omega
       have HE:Hid (t=(11,k+1,false)):=by rw[Hid,HT.out];simp[hl0]
       clear HT
       have HL9:=Lib.hid (Qz (P:=prog) (T:=95) vf w.heap.size [.int .i64 11,.int .i64 k,.int .i64 ((k:Int)+1),.bool false] HTHf.out (by kernel_rfl) underlying95 rfl)
       have HB9:=Lib.hid (Qf HBf.out w.heap.size (Nat.le_refl _) [.int .i64 11,.int .i64 k,.int .i64 ((k:Int)+1),.bool false] 0)
       obtain⟨⟨z0,hz0⟩,hf0⟩:=Q6 HTHf.out 0 (by decide)
       obtain⟨⟨z1,hz1⟩,hf1⟩:=Q6 HTHf.out 1 (by decide)
       obtain⟨⟨z2,hz2⟩,hf2⟩:=Q6 HTHf.out 2 (by decide)
       obtain⟨⟨z3,hz3⟩,hf3⟩:=Q6 HTHf.out 3 (by decide)
       go_wp2
       refine bodyPost_ret (Qr rfl _ rfl HL9.out) rfl ?_
       rw[HE.out]
       exact⟨by simp[Q20],HB9.out⟩
theorem Qel (r:Int)(w:World):Calls prog 76 #[.int .i32 r] w fun e w'=>e=.returned (.bool (Q1M r))∧w=w':=by
 by_cases h1:r=60
 ·subst h1
  go_enter func76,ntmps76
  go_wp2
  go_ret
  exact⟨rfl,rfl⟩
 ·have h1b:(r != 60)=true:=by simpa using h1
  by_cases h2:r=38
  ·subst h2
   clear h1
   go_enter func76,ntmps76
   go_wp2
   go_ret
   exact⟨rfl,rfl⟩
  ·have h2b:(r != 38)=true:=by simpa using h2
   have HE:Hid (Q1M r=(r != -1)):=by rw[Hid,Q1M,h1b,h2b,Bool.true_and,Bool.true_and]
   clear h1 h2
   go_enter func76,ntmps76
   go_wp2
   go_ret
   exact⟨Q14 HE.out.symm,rfl⟩
theorem QgV (w:World):Q7f prog 76 #[] Q1M w:=fun W r _=>(Qel r W).mono fun _ _ ⟨h1,h2⟩=>⟨h1,h2 ▸ Below.refl _ _⟩
theorem QfY:∀ args w,(callFunc 76 args).run prog w=.ok (.enter 76 args) w:=enters_of func76 (by kernel_rfl) rfl
theorem QgK (S:Nat→Prop)(A:Option Addr)(n c:Nat)(l:List Int)(k:Nat)(w:World)(hr:Rd w S 1 A n c (rc l))(hk:k<l.length)(hl9:l.length≤1000000000) :
  Calls prog 52 #[.slice A n c,.int .i64 k] w fun e w'=>e=.returned (.tuple #[Q20 (Qk l k) k,.bool true])∧Below w.heap.size w w':=by
 obtain rfl:=hr.rlen
 have hle:=hr.le
 have hmx:c≤9223372036854775807:=hr.max
 by_cases h38:l[k]=38
 ·have HE:Qk l k=Q1h l k:=by rw[Qk,Q7r hk,h38];rfl
  rw[HE]
  exact Qcx S A _ c l k w hr (by rw[List.getElem?_eq_getElem hk,h38]) hl9
 ·obtain⟨b,o,rfl,hc0⟩:=hr.rune hk
  have hca:=fun ob=>QaT (ba w ob) hc0
  have hki:¬ (k:Int) ≥ (l.length:Int):=by omega
  have hkj:(k:Int)<(l.length:Int):=by omega
  have HMK:=fun W (h:Below w.heap.size w W)=>Lib.hid (Qet S _ _ c l k W (hr.below h) hk hl9)
  have HMK:∀ W,Below w.heap.size w W→Hid (Calls prog 73 #[.slice (some ⟨b,o,none⟩) l.length c,.int .i64 k] W fun e w'=>e=.returned (.agg #[.int .i64 (Q1D l k).1,.int .i64 k,.int .i64 (Q1D l k).2.1,.bool (Q1D l k).2.2])∧Below W.heap.size W w'):=HMK
  have HRN:=fun W (h:Below w.heap.size w W)=>(Q7C S _ l.length c l k _ #[] Q1M W QfY (hr.below h) (QgV W))
  have hrn:Q2Q Q1M l k=((l.drop k).takeWhile Q1M).length:=by rw[Q2Q,if_neg (by omega),Int.toNat_natCast]
  rw[hrn] at HRN
  have HRN:=fun W h=>Lib.hid (HRN W h)
  have hrl:=(List.takeWhile_sublist Q1M (l:=l.drop k)).length_le
  rw[List.length_drop] at hrl
  have HT:Hid (Qk l k=if l[k]=60 then Q1D l k else if l[k]=38 then Q1h l k else if l[k]=-1 then (11,k+1,false) else (1,k+((l.drop k).takeWhile Q1M).length,true)):=by rw[Hid,Qk,Q7r hk]
  clear hr hrn
  generalize Qk l k=t at HT ⊢
  generalize Q1D l k=mk at HMK HT
  generalize ((l.drop k).takeWhile Q1M).length=rn at HRN HT hrl
  obtain⟨mka,mkb,mkc⟩:=mk
  generalize l[k]=r at hc0 hca HT h38
  have h38b:(r == 38)=false:=by simpa using h38
  by_cases h60:r=60
  ·have HE:Hid (t=(mka,mkb,mkc)):=by rw[Hid,HT.out,if_pos h60]
   subst h60
   clear HT h38 hc0 HRN
   go_enter func52,ntmps52
   go_wp2_with fail
   have HTH0:=Lib.hid (Q2A w #[.int .i64 0,.int .i64 0,.int .i64 0,.bool false] 95)
   have HB0:=Lib.hid (ba w (.cells #[.int .i64 0,.int .i64 0,.int .i64 0,.bool false] 95))
   have HSZ:Hid (w.heap.size<(w.alloc (.cells #[.int .i64 0,.int .i64 0,.int .i64 0,.bool false] 95)).heap.size):=by simp[Hid]
   generalize w.alloc (.cells #[.int .i64 0,.int .i64 0,.int .i64 0,.bool false] 95)=W0 at HTH0 HB0 HSZ
   refine (HMK _ HB0.out).out.mono ?_
   rintro e w1 ⟨rfl,hb1⟩
   have HB1:=Lib.hid (HB0.out.trans (hb1.mono HB0.out.size))
   have HTH1:Hid (w1.there w.heap.size 0 4):=QH HTH0.out hb1 HSZ.out
   clear hb1 HTH0 HSZ
   have HL9:=Lib.hid (Qz (P:=prog) (T:=95) w1 w.heap.size [.int .i64 mka,.int .i64 k,.int .i64 (mkb),.bool mkc] HTH1.out (by kernel_rfl) underlying95 rfl)
   have HB9:=Lib.hid (Qf HB1.out w.heap.size (Nat.le_refl _) [.int .i64 mka,.int .i64 k,.int .i64 (mkb),.bool mkc] 0)
   obtain⟨⟨z0,hz0⟩,hf0⟩:=Q6 HTH1.out 0 (by decide)
   obtain⟨⟨z1,hz1⟩,hf1⟩:=Q6 HTH1.out 1 (by decide)
   obtain⟨⟨z2,hz2⟩,hf2⟩:=Q6 HTH1.out 2 (by decide)
   obtain⟨⟨z3,hz3⟩,hf3⟩:=Q6 HTH1.out 3 (by decide)
   go_wp2
   refine bodyPost_ret (Q3V rfl _ rfl HL9.out) rfl ?_
   rw[HE.out]
   exact⟨rfl,HB9.out⟩
  ·have h60b:(r == 60)=false:=by simpa using h60
   by_cases h1:r=-1
   ·have HE:Hid (t=(11,k+1,false)):=by rw[Hid,HT.out,if_neg h60,if_neg h38,if_pos h1]
    subst h1
    clear HT h38 h60 hc0 HRN HMK
    have HL9:=Lib.hid (Qi5 (P:=prog) (T:=95) w [.int .i64 11,.int .i64 k,.int .i64 ((k:Int)+1),.bool false] (by kernel_rfl) underlying95 rfl)
    have HB9:=Lib.hid (ba w (.cells #[.int .i64 11,.int .i64 k,.int .i64 ((k:Int)+1),.bool false] 95))
    go_enter func52,ntmps52
    go_wp2
    refine bodyPost_ret (Q3V rfl _ rfl HL9.out) rfl ?_
    rw[HE.out]
    exact⟨by simp[Q20],HB9.out⟩
   ·have h1b:(r == -1)=false:=by simpa using h1
    have HE:Hid (t=(1,k+rn,true)):=by rw[Hid,HT.out,if_neg h60,if_neg h38,if_neg h1]
    clear HT h38 h60 h1 hc0 HMK
    go_enter func52,ntmps52
    go_wp2_with fail
    have HTH0:=Lib.hid (Q2A w #[.int .i64 0,.int .i64 0,.int .i64 0,.bool false] 95)
    have HB0:=Lib.hid (ba w (.cells #[.int .i64 0,.int .i64 0,.int .i64 0,.bool false] 95))
    have HSZ:Hid (w.heap.size<(w.alloc (.cells #[.int .i64 0,.int .i64 0,.int .i64 0,.bool false] 95)).heap.size):=by simp[Hid]
    generalize w.alloc (.cells #[.int .i64 0,.int .i64 0,.int .i64 0,.bool false] 95)=W0 at HTH0 HB0 HSZ
    refine (HRN _ HB0.out).out.mono ?_
    rintro e w1 ⟨rfl,hb1⟩
    have HB1:=Lib.hid (HB0.out.trans (hb1.mono HB0.out.size))
    have HTH1:Hid (w1.there w.heap.size 0 4):=QH HTH0.out hb1 HSZ.out
    clear hb1 HTH0 HSZ
    have HL9:=Lib.hid (Qz (P:=prog) (T:=95) w1 w.heap.size [.int .i64 1,.int .i64 k,.int .i64 ((k:Int)+(rn:Int)),.bool true] HTH1.out (by kernel_rfl) underlying95 rfl)
    have HB9:=Lib.hid (Qf HB1.out w.heap.size (Nat.le_refl _) [.int .i64 1,.int .i64 k,.int .i64 ((k:Int)+(rn:Int)),.bool true] 0)
    obtain⟨⟨z0,hz0⟩,hf0⟩:=Q6 HTH1.out 0 (by decide)
    obtain⟨⟨z1,hz1⟩,hf1⟩:=Q6 HTH1.out 1 (by decide)
    obtain⟨⟨z2,hz2⟩,hf2⟩:=Q6 HTH1.out 2 (by decide)
    obtain⟨⟨z3,hz3⟩,hf3⟩:=Q6 HTH1.out 3 (by decide)
    go_wp2
    refine bodyPost_ret (Q3V rfl _ rfl HL9.out) rfl ?_
    rw[HE.out]
    exact⟨by simp[Q20],HB9.out⟩
end Go.Proofs.YthbjpdijafccjaaGreat
namespace Go.Proofs.YthbjpdijafccjaaGreat
open Go.RowKit Go.Lib
theorem QcE (l:List Int):∀ (n k:Nat),l.length-k≤n→k≤l.length→k≤(Q2g l k).1∧(Q2g l k).1≤l.length:=by
 intro n
 induction n with
 |zero =>
  intro k h hk
  rw[Q87 l k (by omega)]
  simp only;omega
 |succ n ih =>
  intro k h hk
  by_cases hlt:k<l.length
  ·by_cases h1:l[k]=62
   ·rw[Qdh l k hlt h1];simp only;omega
   ·by_cases h2:l[k]=60
    ·rw[Qdc l k hlt h2];simp only;omega
    ·have:=ih (k+1) (by omega) (by omega)
     rw[Qa3 l k hlt h1 h2];omega
  ·rw[Q87 l k hlt];simp only;omega
theorem Qdm (l:List Int):∀ (n k:Nat) (ok:Bool),l.length-k≤n→k≤l.length→k≤(Q2h l k ok).1∧(Q2h l k ok).1≤l.length:=by
 intro n
 induction n with
 |zero =>
  intro k ok h hk
  rw[Q4p l k ok (by omega)]
  simp only;omega
 |succ n ih =>
  intro k ok h hk
  by_cases hlt:k<l.length∧ok=true
  ·obtain⟨hlt,rfl⟩:=hlt
   by_cases h1:l[k]=62
   ·rw[Q8e l k hlt h1];simp only;omega
   ·cases h2:Q3a l[k] with
    |true =>
     have:=Q2w l k hlt
     have:=ih (Q12 l k).1 (Q12 l k).2 (by omega) (by omega)
     rw[Q89 l k hlt h1 h2];omega
    |false =>
     by_cases h3:l[k]=91
     ·have:=Q77 l k hlt
      have:=ih (Q76 l k).1 (Q76 l k).2 (by omega) (by omega)
      rw[Q8m l k hlt h3];omega
     ·have:=ih (k+1) true (by omega) (by omega)
      rw[Q7b l k hlt h1 h2 h3];omega
  ·rw[Q4p l k ok hlt];simp only;omega
theorem Qau (l:List Int)(k:Nat)(hk:k<l.length):k<(Q1D l k).2.1∧(Q1D l k).2.1≤l.length:=by
 unfold Q1D
 split
 ·exact Q45 l _ k _ _ hk (by decide)
 ·split
  ·exact Q45 l _ k _ _ hk (by decide)
  ·split
   ·exact Q45 l _ k _ _ hk (by decide)
   ·split
    ·rename_i h
     have h9:=QX l k _ (by omega) h
     have h9:k+9≤l.length:=by simpa using h9
     have:=Qdm l l.length (k+9) true (by omega) (by omega)
     unfold Q3G;simp only;omega
    ·split
     ·rename_i h
      have h2:=QX l k _ (by omega) h
      have h2:k+2≤l.length:=by simpa using h2
      have:=QcE l l.length (k+2) (by omega) (by omega)
      unfold Q3m;simp only;omega
     ·split
      ·have h:=Q2T l true l.length (k+1) (by omega) (by omega)
       unfold Q1A
       split
       ·simp only;omega
       ·rename_i hb
        have:=h.2.2 (by simpa using hb)
        split<;>(simp only;omega)
      ·simp only;omega
theorem Q3I (l:List Int)(k:Nat)(hk:k<l.length):k<(Qk l k).2.1∧(Qk l k).2.1≤l.length:=by
 unfold Qk
 rw[Q7r hk]
 split
 ·exact Qau l k hk
 ·split
  ·exact⟨QiP l k,Qku l k hk⟩
  ·split
   ·simp only;omega
   ·rename_i h1 h2 h3
    have hp:Q1M l[k]=true:=by simp[Q1M,h1,h2,h3]
    have hs:=(List.takeWhile_sublist Q1M (l:=l.drop k)).length_le
    rw[List.length_drop] at hs
    rw[List.drop_eq_getElem_cons hk,List.takeWhile_cons,hp] at hs ⊢
    simp only[if_true,List.length_cons] at hs ⊢
    omega
def Q4E (l:List Int)(k:Nat):List ((Nat×Nat×Bool)×Nat):=if h:k<l.length then (Qk l k,k)::Q4E l (Qk l k).2.1 else []
termination_by l.length-k
decreasing_by
 have:=Q3I l k h;omega
theorem Qah (l:List Int)(k:Nat)(h:k<l.length):Q4E l k=(Qk l k,k)::Q4E l (Qk l k).2.1:=by
 conv=>lhs;rw[Q4E]
 rw[dif_pos h]
theorem Qc2 (l:List Int)(k:Nat)(h:¬ k<l.length):Q4E l k=[]:=by rw[Q4E,dif_neg h]
end Go.Proofs.YthbjpdijafccjaaGreat
namespace Go.Proofs.YthbjpdijafccjaaGreat
open Go.RowKit Tryz
def Q95 (r:Int):Bool:=r == 9||r == 10||r == 13||r == 32
theorem Qe5 (r:Int):Q95 r=Qc r:=by
 unfold Q95 Qc;cases (r == 9)<;>cases (r == 10)<;>cases (r == 13)<;>cases (r == 32)<;>rfl
theorem Qer (r:Int)(w:World):Calls prog 117 #[.int .i32 r] w fun e w'=>e=.returned (.bool (Qc r))∧w=w':=by
 rw[←Qe5]
 go_enter func117,ntmps117
 go_wp2
 all_goals (go_ret;exact⟨Q14 (by simp[Q95, *]),rfl⟩)
end Go.Proofs.YthbjpdijafccjaaGreat
namespace Go.Proofs.YthbjpdijafccjaaGreat
open Go.RowKit Go.Lib
theorem Rd.setB {w:World}{S:Nat→Prop}{n c:Nat}{xs:List Value}{b o:Nat}(h:Rd w S 1 (some ⟨b,o,none⟩) n c xs){k:Nat}(hk:k<n)(v:Value) :
  Rd (w.setCell ⟨b,o+k,none⟩ v) S 1 (some ⟨b,o,none⟩) n c (xs.set k v):=by
 have hlen:=h.len
 refine⟨by simpa using h.len,h.le,h.max,(fun e=>by cases e),fun h0=>?_⟩
 obtain⟨b',o',e,hS,hc⟩:=h.at_ h0
 injection e with e
 injection e with e1 e2
 subst e1 e2
 refine⟨b,o,rfl,hS,fun j u hu=>?_⟩
 have hkl:k<xs.length:=by omega
 by_cases hj:k=j
 ·subst hj
  rw[List.getElem?_set_self hkl] at hu
  injection hu with hu
  subst hu
  exact World.cell?_setCell_same _ _ _ (hc k _ (List.getElem?_eq_getElem hkl))
 ·rw[List.getElem?_set_ne hj] at hu
  rw[World.cell?_setCell_other]
  ·exact hc j u hu
  ·intro e
   injection e with _ e
   omega
end Go.Proofs.YthbjpdijafccjaaGreat
