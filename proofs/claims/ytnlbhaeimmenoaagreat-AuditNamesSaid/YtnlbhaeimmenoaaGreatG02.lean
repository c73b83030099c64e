/- Lemmas, conditions told -/
import Derived.Test.YtnlbhaeimmenoaaGreatG01
import Derived.Deep.RegionWith
import Derived.Lib.AppendStr
import Derived.Deep.MidRow
set_option maxRecDepth 99999
set_option maxHeartbeats 0
set_option linter.unusedSimpArgs false
set_option linter.unusedVariables false
namespace Go.Proofs.YtnlbhaeimmenoaaGreat
open List(getElem?_eq_getElem getElem_take mem_range'_1 map_cons map_nil length_drop)
open Lib(hid)
open Nat(le_refl add_zero zero_le)
section
open Go.RowKit Tryz
def startSp:List (Int×Int):=[(97,122),(65,90),(58,58),(95,95),(0xC0,0xD6),(0xD8,0xF6),(0xF8,0x2FF),(0x370,0x37D),
 (0x37F,0x1FFF),(0x200C,0x200D),(0x2070,0x218F),(0x2C00,0x2FEF),(0x3001,0xD7FF),(0xF900,0xFDCF),(0xFDF0,0xFFFD),(0x10000,0xEFFFF)]
def moreSp:List (Int×Int):=[(48,57),(45,46),(0xB7,0xB7),(0x300,0x36F),(0x203F,0x2040)]
def Qf(r:Int):Bool:=Q7u r startSp
def Qp(r:Int):Bool:=Qf r||Q7u r moreSp
theorem Q7h(r:Int)(w:World):Calls prog 156 #[.int .i32 r] w fun e w'=>e=.returned (.bool (Qf r))/\Below w.heap.size w w':=by
 go_enter func156,ntmps156
 go_wp2_with fail
 refine(QjY _ _ 16 16 r startSp _ (Rd.lit w _ _ 2 16 rfl (by decide)) rfl).mono ?_
 rintro e w' ⟨rfl,hb⟩;go_wp2
 go_ret
 exact⟨rfl,Q76 ((Below.refl _ _).alloc (le_refl _) _) hb⟩
theorem QcP(r:Int)(w:World):Calls prog 157 #[.int .i32 r] w fun e w'=>e=.returned (.bool (Qp r))/\Below w.heap.size w w':=by
 have HN:=hid (Q7h r w);cases hq:Qf r with
 |true =>
  rw[hq]at HN;have HI:Hid (Qp r=true):=by rw[Hid,Qp,hq];rfl
  clear hq;go_enter func157,ntmps157
  go_wp2_with (go_at_call 156;refine HN.out.mono ?_;rintro e w' ⟨rfl,hb⟩);go_ret
  exact⟨Q18 HI.out.symm,hb⟩
 |false =>
  rw[hq]at HN;have HI:Hid (Qp r=Q7u r moreSp):=by rw[Hid,Qp,hq];rfl
  clear hq;go_enter func157,ntmps157
  go_wp2_with (go_at_call 156;refine HN.out.mono ?_;rintro e w' ⟨rfl,hb⟩);refine(QjY _ _ 5 5 r moreSp _ (Rd.lit w' _ _ 2 5 rfl (by decide)) rfl).mono ?_
  rintro e w2 ⟨rfl,hb2⟩;go_wp2
  go_ret
  exact⟨Q18 HI.out.symm,Q76 (hb.alloc hb.size _) hb2⟩
def Q5l(r:Int):Int×Bool:=if r<48\/57<r then(0,false)else(r-48,true)
def Qac(r:Int):Int×Bool:=if 97<=r/\r<=102 then(r-97+10,true)else if 65<=r/\r<=70 then(r-65+10,true)else Q5l r
theorem Qcu(r:Int)(w:World):Calls prog 167 #[.int .i32 r] w fun e w'=>e=.returned (.tuple #[.int .i64 (Q5l r).1,.bool (Q5l r).2])/\w=w':=by
 by_cases h1:r<48
 ·go_enter func167,ntmps167
  go_wp2
  go_ret2
  exact⟨Q6g (if_pos (.inl h1)),rfl⟩
 ·by_cases h2:57<r
  ·go_enter func167,ntmps167
   go_wp2
   go_ret2
   exact⟨Q6g (if_pos (.inr h2)),rfl⟩
  ·go_enter func167,ntmps167
   go_wp2
   go_ret2
   exact⟨Q6g (if_neg (by omega)),rfl⟩
theorem QmR(r:Int)(w:World):Calls prog 168 #[.int .i32 r] w fun e w'=>e=.returned (.tuple #[.int .i64 (Qac r).1,.bool (Qac r).2])/\w=w':=by
 have HD:=hid (Qcu r w);by_cases h1:97<=r/\r<=102
 ·obtain⟨h2,h3⟩:=h1
  go_enter func168,ntmps168
  go_wp2
  go_ret2
  exact⟨Q6g (if_pos ⟨h2,h3⟩),rfl⟩
 ·by_cases h2:65<=r/\r<=70
  ·obtain⟨h3,h4⟩:=h2
   have h5:¬97<=r:=by omega
   clear h1;go_enter func168,ntmps168
   go_wp2
   go_ret2
   exact⟨Q6g (by rw[Qac,if_neg (by omega),if_pos ⟨h3,h4⟩]),rfl⟩
  ·have HF:Hid (Qac r=Q5l r):=by simp[Hid,Qac,h1,h2]
   generalize Qac r=z at HF ⊢;generalize Q5l r=y at HD HF;by_cases h3:97<=r
   ·have h4:¬r<=102:=by omega
    have h5:65<=r:=by omega
    have h6:¬r<=70:=by omega
    clear h1 h2;go_enter func168,ntmps168
    go_wp2_with (go_at_call 167;refine HD.out.mono ?_;rintro e w' ⟨rfl,rfl⟩);go_ret2
    exact⟨Q6g HF.out,rfl⟩
   ·by_cases h5:65<=r
    ·have h6:¬r<=70:=by omega
     clear h1 h2;go_enter func168,ntmps168
     go_wp2_with (go_at_call 167;refine HD.out.mono ?_;rintro e w' ⟨rfl,rfl⟩);go_ret2
     exact⟨Q6g HF.out,rfl⟩
    ·clear h1 h2
     go_enter func168,ntmps168
     go_wp2_with (go_at_call 167;refine HD.out.mono ?_;rintro e w' ⟨rfl,rfl⟩);go_ret2
     exact⟨Q6g HF.out,rfl⟩
end
section
open Go.RowKit Go.Lib Tryz
def isF(r lo hi:Int):Bool:=decide (lo<=r)&&decide (r<=hi)
def Q5Q(r:Int):Bool:=isF r 97 122||isF r 65 90
theorem Q2O(r lo hi:Int)(w:World):Calls prog 118 #[.int .i32 r,.int .i32 lo,.int .i32 hi] w fun e w'=>e=.returned (.bool (isF r lo hi))/\w=w':=by
 by_cases h:lo<=r
 ·go_enter func118,ntmps118
  go_wp2
  go_ret
  exact⟨Q18 (by simp[isF,h]),rfl⟩
 ·go_enter func118,ntmps118
  go_wp2
  go_ret
  exact⟨Q18 (by rw[isF,decide_eq_false (by omega)];rfl),rfl⟩
theorem QkG(r lo hi:Int):isF r lo hi=true↔lo<=r/\r<=hi:=by simp[isF]
theorem QeJ(r:Int):Q5Q r=(isF r 97 122||isF r 65 90):=rfl
theorem Qgr(r:Int):Qf r=(Q5Q r||r == 58||r == 95||(if isF r 192 767 then r != 215&&r != 247 else if isF r 880 8191 then r != 894 else
  isF r 8204 8205||isF r 8304 8591||isF r 11264 12271||isF r 12289 55295||(isF r 63744 64975||isF r 65008 65533||isF r 65536 983039))):=by
 rw[Bool.eq_iff_iff];by_cases h1:isF r 192 767=true
 ·rw[if_pos h1]
  simp[isF]at h1;simp[Qf,Q7u,startSp,isF,Q5Q];omega
 ·rw[if_neg h1]
  simp[isF]at h1;by_cases h2:isF r 880 8191=true
  ·rw[if_pos h2]
   simp[isF]at h2;simp[Qf,Q7u,startSp,isF,Q5Q];omega
  ·rw[if_neg h2]
   simp[isF]at h2;simp[Qf,Q7u,startSp,isF,Q5Q];omega
theorem QiY(r:Int):Qp r=(Qf r||r == 45||r == 46||isF r 48 57||r == 183||isF r 768 879||r == 8255||r == 8256):=by
 rw[Bool.eq_iff_iff];simp only[Qp];cases Qf r<;>simp[Q7u,moreSp,isF]<;>omega
theorem QdQ(r:Int)(w:World):Calls prog 117 #[.int .i32 r] w fun e w'=>e=.returned (.bool (Q5Q r))/\w=w':=by
 rw[QeJ];have HI1:=fun w=>hid (Q2O r 97 122 w)
 have HI2:=fun w=>hid (Q2O r 65 90 w)
 generalize isF r 97 122=b1 at HI1 ⊢;generalize isF r 65 90=b2 at HI2 ⊢;go_enter func117,ntmps117
 go_wp2_with (first
  |(go_at_call_of 118 (Value.int .i32 97);refine(HI1 _).out.mono ?_;rintro e w' ⟨rfl,rfl⟩)
  |(go_at_call_of 118 (Value.int .i32 65);refine(HI2 _).out.mono ?_;rintro e w' ⟨rfl,rfl⟩))
 all_goals
  go_ret
  exact⟨Q18 (by first|rfl|simp_all),rfl⟩
theorem Q4I(r:Int)(w:World):Calls prog 85 #[.int .i32 r] w fun e w'=>e=.returned (.bool (Qf r))/\w=w':=by
 rw[Qgr];have HL:=fun w=>hid (QdQ r w)
 have HI0:=fun w=>hid (Q2O r 192 767 w)
 have HI1:=fun w=>hid (Q2O r 880 8191 w)
 have HI2:=fun w=>hid (Q2O r 8204 8205 w)
 have HI3:=fun w=>hid (Q2O r 8304 8591 w)
 have HI4:=fun w=>hid (Q2O r 11264 12271 w)
 have HI5:=fun w=>hid (Q2O r 12289 55295 w)
 have HI6:=fun w=>hid (Q2O r 63744 64975 w)
 have HI7:=fun w=>hid (Q2O r 65008 65533 w)
 have HI8:=fun w=>hid (Q2O r 65536 983039 w)
 generalize Q5Q r=bl at HL ⊢;generalize isF r 192 767=b0 at HI0 ⊢;generalize isF r 880 8191=b1 at HI1 ⊢;generalize isF r 8204 8205=b2 at HI2 ⊢;generalize isF r 8304 8591=b3 at HI3 ⊢;generalize isF r 11264 12271=b4 at HI4 ⊢;generalize isF r 12289 55295=b5 at HI5 ⊢;generalize isF r 63744 64975=b6 at HI6 ⊢;generalize isF r 65008 65533=b7 at HI7 ⊢;generalize isF r 65536 983039=b8 at HI8 ⊢;go_enter func85,ntmps85
 go_wp2_with (first
  |(go_at_call 117;refine(HL _).out.mono ?_;rintro e w' ⟨rfl,rfl⟩)
  |(go_at_call_of 118 (Value.int .i32 192);refine(HI0 _).out.mono ?_;rintro e w' ⟨rfl,rfl⟩)
  |(go_at_call_of 118 (Value.int .i32 880);refine(HI1 _).out.mono ?_;rintro e w' ⟨rfl,rfl⟩)
  |(go_at_call_of 118 (Value.int .i32 8204);refine(HI2 _).out.mono ?_;rintro e w' ⟨rfl,rfl⟩)
  |(go_at_call_of 118 (Value.int .i32 8304);refine(HI3 _).out.mono ?_;rintro e w' ⟨rfl,rfl⟩)
  |(go_at_call_of 118 (Value.int .i32 11264);refine(HI4 _).out.mono ?_;rintro e w' ⟨rfl,rfl⟩)
  |(go_at_call_of 118 (Value.int .i32 12289);refine(HI5 _).out.mono ?_;rintro e w' ⟨rfl,rfl⟩)
  |(go_at_call_of 118 (Value.int .i32 63744);refine(HI6 _).out.mono ?_;rintro e w' ⟨rfl,rfl⟩)
  |(go_at_call_of 118 (Value.int .i32 65008);refine(HI7 _).out.mono ?_;rintro e w' ⟨rfl,rfl⟩)
  |(go_at_call_of 118 (Value.int .i32 65536);refine(HI8 _).out.mono ?_;rintro e w' ⟨rfl,rfl⟩))
 all_goals
  go_ret
  exact⟨Q18 (by first|rfl|simp_all),rfl⟩
theorem Qbn(r:Int)(w:World):Calls prog 143 #[.int .i32 r] w fun e w'=>e=.returned (.bool (Qp r))/\w=w':=by
 rw[QiY];have HL:=fun w=>hid (Q4I r w)
 have HI1:=fun w=>hid (Q2O r 48 57 w)
 have HI2:=fun w=>hid (Q2O r 768 879 w)
 generalize Qf r=bl at HL ⊢;generalize isF r 48 57=b1 at HI1 ⊢;generalize isF r 768 879=b2 at HI2 ⊢;go_enter func143,ntmps143
 go_wp2_with (first
  |(go_at_call 85;refine(HL _).out.mono ?_;rintro e w' ⟨rfl,rfl⟩)
  |(go_at_call_of 118 (Value.int .i32 48);refine(HI1 _).out.mono ?_;rintro e w' ⟨rfl,rfl⟩)
  |(go_at_call_of 118 (Value.int .i32 768);refine(HI2 _).out.mono ?_;rintro e w' ⟨rfl,rfl⟩))
 all_goals
  go_ret
  exact⟨Q18 (by first|rfl|simp_all),rfl⟩
theorem Rd.rune{w:World}{S:Nat->Prop}{n c:Nat}{A:Option Addr}{l:List Int}(h:Rd w S 1 A n c (rc l)){k:Nat}(hk:k<l.length) :
  ∃b o,A=some ⟨b,o,none⟩/\w.cell? ⟨b,o+k,none⟩=some (.int .i32 l[k]):=by
 have hl:=h.len;obtain⟨b,o,u,e,_,hu,hc⟩:=h.one (k:=k) (by simp at hl;omega)
 obtain⟨_,rfl⟩:=QkF hu;exact⟨b,o,e,hc⟩
theorem Rd.rlen{w:World}{S:Nat->Prop}{n c:Nat}{A:Option Addr}{l:List Int}(h:Rd w S 1 A n c (rc l)):n=l.length:=by have:=h.len;simpa using this.symm
theorem Qes(w:World):Q7p prog 157 #[] Qp w:=fun W r _=>QcP r W
theorem QdL:∀args w,(callFunc 157 args).run prog w=.ok (.enter 157 args) w:=enters_of func157 (by kernel_rfl) rfl
def Qk(l:List Int)(k:Nat):Nat:=match l[k]? with
 |none=>0
 |some r=>if Qf r then((l.drop k).takeWhile Qp).length else 0
theorem Q7z(r:Int)(h:Qf r=true):Qp r=true:=by simp[Qp,h]
theorem Q8A(S:Nat->Prop)(A:Option Addr)(n c:Nat)(l:List Int)(k:Nat)(w:World)(hr:Rd w S 1 A n c (rc l))(hk:k<=1000000000) :
  Calls prog 136 #[.slice A n c,.int .i64 k] w fun e w'=>e=.returned (.int .i64 (Qk l k))/\Below w.heap.size w w':=by
 obtain rfl:=hr.rlen;have hle:=hr.le;have hmx:c<=9223372036854775807:=hr.max;have HR:=hid hr;clear hr;by_cases hlt:k<l.length
 ·obtain⟨b,o,rfl,hc0⟩:=HR.out.rune hlt
  have hkl:¬(k:Int) ≥ (l.length:Int):=by omega
  have HS:=fun w=>hid (Q7h l[k] w)
  have HL:Hid (Qk l k=if Qf l[k]then((l.drop k).takeWhile Qp).length else 0):=by rw[Hid,Qk,getElem?_eq_getElem hlt]
  have HF:Hid (Q2L Qp l k=((l.drop k).takeWhile Qp).length):=by rw[Hid,Q2L,if_neg (by omega),Int.toNat_natCast]
  generalize l[k]=r at hc0 HS HL;cases hs:Qf r with
  |true =>
   rw[hs]at HS HL;go_enter func136,ntmps136
   go_wp2_with (first
    |(go_at_call 156;refine(HS _).out.mono ?_;rintro e w' ⟨rfl,hb⟩)
    |(go_at_call 131;refine(Q85 S _ l.length c l k _ #[] Qp w' QdL (HR.out.below hb) (Qes w')).mono ?_;rintro e w2 ⟨rfl,hb2⟩))
   go_ret
   exact⟨Q1l (by rw[HL.out,HF.out];rfl),hb.trans (hb2.mono hb.size)⟩
  |false =>
   rw[hs]at HS HL;go_enter func136,ntmps136
   go_wp2_with (go_at_call 156;refine(HS _).out.mono ?_;rintro e w' ⟨rfl,hb⟩);go_ret
   exact⟨Q1l (by rw[HL.out];rfl),hb⟩
 ·have hkl:(k:Int) ≥ (l.length:Int):=by omega
  have HL:Hid (Qk l k=0):=by rw[Hid,Qk,List.getElem?_eq_none (by omega)]
  go_enter func136,ntmps136
  go_wp2
  go_ret
  exact⟨Q1l (by rw[HL.out];rfl),Below.refl _ _⟩
theorem Q6j(p:Int->Bool)(l:List Int)(k j:Nat)(h:∀i,i<j->(h:k+i<l.length)->p l[k+i]=true)(hj:k+j<=l.length)
  (hs:∀h:k+j<l.length,p l[k+j]=false):((l.drop k).takeWhile p).length=j:=by
 induction j generalizing k with
 |zero =>
  by_cases hk:k<l.length
  ·rw[List.drop_eq_getElem_cons hk,List.takeWhile_cons]
   have:=hs (by omega)
   simp only[add_zero]at this;rw[this];rfl
  ·rw[List.drop_eq_nil_of_le (by omega)];rfl
 |succ j ih =>
  have hk:k<l.length:=by omega
  rw[List.drop_eq_getElem_cons hk,List.takeWhile_cons];have h0:=h 0 (by omega) (by omega)
  simp only[add_zero]at h0;rw[h0]
  have:=ih (k+1) (fun i hi hl=>by
   have:=h (i+1) (by omega) (by omega)
   simpa[Nat.add_assoc,Nat.add_comm 1]using this) (by omega) (fun hl=>by
   have:=hs (by omega)
   simpa[Nat.add_assoc,Nat.add_comm 1]using this)
  simp[this]
theorem Qj1(S:Nat->Prop)(A:Option Addr)(n c:Nat)(l:List Int)(k:Nat)(w:World)(hr:Rd w S 1 A n c (rc l))(hk:k<=1000000000)(hll:l.length<=1000000000) :
  Calls prog 121 #[.slice A n c,.int .i64 k] w fun e w'=>e=.returned (.int .i64 (Qk l k))/\w=w':=by
 obtain rfl:=hr.rlen;have hle:=hr.le;have hmx:c<=9223372036854775807:=hr.max;have HR:=hid hr;clear hr;by_cases hlt:k<l.length
 ·obtain⟨b,o,rfl,hc0⟩:=HR.out.rune hlt
  have hkl:¬(k:Int) ≥ (l.length:Int):=by omega
  have HL:Hid (Qk l k=if Qf l[k]then((l.drop k).takeWhile Qp).length else 0):=by rw[Hid,Qk,getElem?_eq_getElem hlt]
  have HS:=fun w=>hid (Q4I l[k] w)
  cases hs:Qf l[k]with
  |true =>
   have HC0:=hid (Q7z _ hs);rw[hs]at HS HL;generalize hrr:l[k]=r at hc0 HS HC0;have HRR:=hid hrr;clear hrr hs;go_enter func121,ntmps121
   go_wp2_with (go_at_call 85;refine(HS _).out.mono ?_;rintro e w' ⟨rfl,rfl⟩);clear hc0;go_loopw [5] (fun v wr=>wr=w/\∃j:Nat,1<=j/\k+j<=l.length/\v=.int .i64 j/\Hid (∀i,i<j->(h:k+i<l.length)->Qp l[k+i]=true)) (fun v _=>l.length-(RowKit.intOf v).toNat)
   case atStart =>
    refine⟨rfl,1,by omega,by omega,rfl,fun i hi h=>?_⟩
    have e:i=0:=by omega
    subst e;simp only[add_zero];rw[HRR.out];exact HC0.out
   case round =>
    obtain⟨rfl,j,hj1,hj2,rfl,HJ⟩:=hrel;by_cases hlj:k+j<l.length
    ·obtain⟨b2,o2,hA,hc1⟩:=HR.out.rune hlj
     injection hA with hA
     injection hA with e1 e2
     subst e1 e2;have hlj':(k:Int)+(j:Int)<(l.length:Int):=by omega
     have HM:=fun w=>hid (Qbn l[k+j] w)
     cases hq:Qp l[k+j]with
     |true =>
      have HJ2:Hid (∀i,i<j+1->(h:k+i<l.length)->Qp l[k+i]=true):=fun i hi h=>by
       by_cases e:i=j
       ·subst e;exact hq
       ·exact HJ.out i (by omega) h
      rw[hq]at HM;clear hq;generalize l[k+j]=r2 at hc1 HM;go_wp2_with (go_at_call 143;refine(HM _).out.mono ?_;rintro e w' ⟨rfl,rfl⟩);go_roundw
      case rel=>exact⟨trivial,j+1,by omega,by omega,by go_num,HJ2.out⟩
      case measure=>simp[RowKit.intOf];omega
     |false =>
      have HE:Hid (((l.drop k).takeWhile Qp).length=j):=Q6j _ l k j HJ.out (by omega) (fun h=>hq)
      rw[hq]at HM;clear hq;generalize l[k+j]=r2 at hc1 HM;go_wp2_with (go_at_call 143;refine(HM _).out.mono ?_;rintro e w' ⟨rfl,rfl⟩);go_ret
      exact⟨Q1l (by rw[HL.out,HE.out];rfl),rfl⟩
    ·have hlj':¬(k:Int)+(j:Int)<(l.length:Int):=by omega
     have HE:Hid (((l.drop k).takeWhile Qp).length=j):=Q6j _ l k j HJ.out (by omega) (fun h=>absurd h hlj)
     go_wp2
     go_ret
     exact⟨Q1l (by rw[HL.out,HE.out];rfl),rfl⟩
  |false =>
   rw[hs]at HS HL;generalize l[k]=r at hc0 HS;clear hs;go_enter func121,ntmps121
   go_wp2_with (go_at_call 85;refine(HS _).out.mono ?_;rintro e w' ⟨rfl,rfl⟩);go_ret
   exact⟨Q1l (by rw[HL.out];rfl),rfl⟩
 ·have hkl:(k:Int) ≥ (l.length:Int):=by omega
  have HL:Hid (Qk l k=0):=by rw[Hid,Qk,List.getElem?_eq_none (by omega)]
  go_enter func121,ntmps121
  go_wp2
  go_ret
  exact⟨Q1l (by rw[HL.out];rfl),rfl⟩
end
section
open Go.RowKit Go.Lib
def bi(l:List UInt8):List Int:=l.map fun b=>(b.toNat:Int)
theorem Q8m{l:List Int}{k:Nat}(h:k<l.length):l.getD k 0=l[k]:=by simp[List.getD,h]
abbrev IterIn(wr:World)(ib:Nat)(s:ByteArray)(pos:Nat):Prop:=wr.heap[ib]?=some (.stringIter s pos)
theorem IterIn.lt{wr:World}{ib:Nat}{s:ByteArray}{pos:Nat}(h:IterIn wr ib s pos):ib<wr.heap.size:=(Array.getElem?_eq_some_iff.1 h).1
theorem IterIn.set{wr:World}{ib:Nat}{s:ByteArray}{pos pos':Nat}(h:IterIn wr ib s pos):IterIn (World.iterSet wr ib s pos') ib s pos':=by
 have jB:=IterIn.lt h;show(wr.heap.setIfInBounds ib _)[ib]?=_
 rw[Array.getElem?_setIfInBounds_self_of_lt jB]
theorem IterIn.grown{wr w2:World}{ib:Nat}{s:ByteArray}{pos:Nat}{row:Option Nat}(h:IterIn wr ib s pos)(hg:wr.grownBy w2 row)(hr:row≠some ib):IterIn w2 ib s pos :=
 (hg.block ib (IterIn.lt h) (fun e=>hr e.symm)).trans h
theorem IterIn.alloc{wr:World}{ib:Nat}{s:ByteArray}{pos:Nat}(h:IterIn wr ib s pos)(o:Obj):IterIn (wr.alloc o) ib s pos:=(Below.heap_alloc wr o _ (IterIn.lt h)).trans h
theorem RunesV.lit(w:World)(B:Nat)(hB:w.heap.size=B)(t:TypeId)(l:List Int)(n:Nat)(hn:l.length=n)(hm:n<=maxLen)(cs:Array Value)(hcs:cs.toList=rc l):RunesV (w.alloc (.cells cs t)) (.slice (some ⟨B,0,none⟩) n n) l:=by
 subst hn;refine .of_rd (S:=fun b=>B<=b) ?_
 have:=Rd.litN w B hB t cs 1 l.length (by have:=congrArg List.length hcs;simpa using this) hm
 rwa [hcs]at this
theorem RunesV.len{w:World}{v:Value}{l:List Int}(h:RunesV w v l):∃A c,v=.slice A l.length c/\Rd w (fun _=>True) 1 A l.length c (rc l):=by
 obtain⟨A,n,c,rfl,hr⟩:=h;obtain rfl:=hr.rlen;exact⟨A,c,rfl,hr⟩
theorem RowsV.lit(w:World)(B:Nat)(hB:w.heap.size=B)(t:TypeId)(vs:List Value)(ls:List (List Int))(n:Nat)(hn:vs.length=n)(hl:vs.length=ls.length)(hm:n<=maxLen)
  (h:∀(i:Nat)(v:Value)(l:List Int),vs[i]?=some v->ls[i]?=some l->RunesV w v l) (cs:Array Value) (hcs:cs.toList=vs):RowsV (w.alloc (.cells cs t)) (some ⟨B,0,none⟩) n n ls vs:=by
 subst hcs;refine⟨?_,hl,fun i v l h1 h2=>(h i v l h1 h2).alloc _⟩
 subst hn;exact(Rd.litN w B hB t cs 1 cs.toList.length (by simp) hm).more fun _ _=>trivial
theorem bt{a b c:World}(h:Below a.heap.size a b)(k:Below b.heap.size b c):Below a.heap.size a c:=h.trans (k.mono h.size)
theorem ba(w:World)(o:Obj):Below w.heap.size w (w.alloc o):=(Below.refl _ w).alloc (le_refl _) _
theorem bg{w w':World}{v:Value}{base:Nat}{e:TypeId}{size n:Nat}{xs:List Value}(jP:w.ownsRow base e size v n xs)(hg:w.grownBy w' v.ownBlock){w0:World}(hb:Below base w0 w)(jJ:base<=w.heap.size):Below base w0 w':=Q6J hb jJ jP hg
theorem Q6O{w1 w2:World}{p:Addr}{v:Value}(hb:Below w1.heap.size w1 w2)(h:w1.cell? p=some v):w2.cell? p=some v :=
 (World.cell?_of_block (hb.block _ (World.block_lt_of_cell? w1 p h))).trans h
theorem QkR(w:World)(cs:Array Value)(t:TypeId)(k:Nat){u:Value}(h:cs[k]?=some u):(w.alloc (.cells cs t)).cell? ⟨w.heap.size,k,none⟩=some u:=by
 rw[World.cell?_alloc_at _ _ _ _ rfl];exact h
theorem Rd.apart{w w':World}{B base n c m:Nat}{A:Option Addr}{xs ys:List Value}{e:TypeId}{size:Nat}{v:Value}(h:Rd w (fun b=>b<B) 1 A n c xs)(jP:w.ownsRow base e size v m ys)(hB:B<=base)(hg:w.grownBy w' v.ownBlock) :
  Rd w' (fun b=>b<B) 1 A n c xs :=
 h.grown hg fun g hg hb=>by
  have:=(jP.lt g hg).1
  have hb:g<B:=hb;omega
end
section
open Go.RowKit
end
section
open Go.RowKit Tryz
theorem Qlp(w:World):Q7p prog 135 #[] Qb w:=fun W r _=>(QjD r W).mono fun _ _ ⟨h1,h2⟩=>⟨h1,h2 ▸ Below.refl _ _⟩
theorem QkZ:∀args w,(callFunc 135 args).run prog w=.ok (.enter 135 args) w:=enters_of func135 (by kernel_rfl) rfl
end
section
open Go.RowKit Go.Lib
abbrev Qeb:=List (ByteArray×List Int)
def Q3x:Qeb->List Value->List Value
 |p::ps,v::vs=>.string p.1::v::Q3x ps vs
 |_,_=>[]
theorem Q6u:∀(ps:Qeb)(vs:List Value)(k:Nat),(Q3x ps vs).take (k * 2)=Q3x (ps.take k) (vs.take k)
 |_,_,0=>by simp[Q3x]
 | [],_,k+1=>by simp[Q3x]
 |_::_,[],k+1=>by simp[Q3x]
 |p::ps,v::vs,k+1=>by
  have ih:=Q6u ps vs k;rw[show(k+1) * 2=k * 2+1+1 by omega]
  simp[Q3x,ih]
structure PairsV (w:World) (S:Nat->Prop) (A:Option Addr) (n c:Nat) (ps:Qeb) (vs:List Value):Prop where
 rd:Rd w S 2 A n c (Q3x ps vs)
 len:vs.length=ps.length
 each:∀(k:Nat)(h:k<ps.length)(h2:k<vs.length),RunesV w vs[k] ps[k].2
theorem PairsV.below{w w':World}{S:Nat->Prop}{A:Option Addr}{n c:Nat}{ps:Qeb}{vs:List Value}(h:PairsV w S A n c ps vs)(hb:Below w.heap.size w w'):PairsV w' S A n c ps vs :=
 ⟨h.rd.below hb,h.len,fun k h1 h2=>(h.each k h1 h2).below hb⟩
theorem PairsV.take{w:World}{S:Nat->Prop}{A:Option Addr}{n c:Nat}{ps:Qeb}{vs:List Value}(h:PairsV w S A n c ps vs){k:Nat}(hk:k<=n):PairsV w S A k c (ps.take k) (vs.take k):=by
 refine⟨by rw[<-Q6u];exact h.rd.take hk,by simp[h.len],fun j h1 h2=>?_⟩
 rw[getElem_take,getElem_take];exact h.each j _ _
theorem bb{B:Nat}{a b c:World}(h:Below B a b)(k:Below b.heap.size b c)(hB:B<=b.heap.size):Below B a c:=h.trans (k.mono hB)
end
section
open Go.RowKit Go.Lib Tryz
def Q3(l:List Int)(k:Nat)(bs:List UInt8):Bool:=bs.all (fun b=>decide (b.toNat<128))&&((l.drop k).take bs.length == bi bs)
theorem Q9g(l:List Int)(k:Nat)(bs:List UInt8)(hl:k+bs.length<=l.length)
  (h:∀i (h:i<bs.length),bs[i].toNat<128/\l[k+i]'(by omega)=bs[i].toNat):Q3 l k bs=true:=by
 rw[Q3,Bool.and_eq_true];refine⟨List.all_eq_true.2 fun b hb=>?_,?_⟩
 ·obtain⟨i,hi,rfl⟩:=List.getElem_of_mem hb
  exact decide_eq_true (h i hi).1
 ·rw[beq_iff_eq]
  apply List.ext_getElem
  ·simp[bi];omega
  ·intro i h1 h2
   rw[getElem_take,List.getElem_drop];have hi:i<bs.length:=by simpa[bi]using h2
   rw[(h i hi).2];simp[bi]
theorem Q9n(l:List Int)(k:Nat)(bs:List UInt8)(i:Nat)(hi:i<bs.length)(hl:k+i<l.length)(h:¬(bs[i].toNat<128/\l[k+i]=bs[i].toNat)):Q3 l k bs=false:=by
 cases hs:Q3 l k bs with
 |false=>rfl
 |true =>
  exfalso;rw[Q3,Bool.and_eq_true,beq_iff_eq]at hs;obtain⟨h1,h2⟩:=hs;refine h ⟨of_decide_eq_true (List.all_eq_true.1 h1 _ (List.getElem_mem hi)),?_⟩;have h3:=congrArg (fun x=>x[i]?) h2
  simp only[List.getElem?_take,List.getElem?_drop,hi,if_true,bi,List.getElem?_map,getElem?_eq_getElem hi,getElem?_eq_getElem hl,Option.map_some,Option.some.injEq]at h3;exact h3
theorem Q5Z(l:List Int)(k:Nat)(bs:List UInt8)(h:l.length<k+bs.length)(hk:k<=l.length):Q3 l k bs=false:=by
 cases hs:Q3 l k bs with
 |false=>rfl
 |true =>
  exfalso;rw[Q3,Bool.and_eq_true,beq_iff_eq]at hs;have:=congrArg List.length hs.2
  simp[bi]at this;omega
theorem Q1Z(S:Nat->Prop)(A:Option Addr)(n c:Nat)(l:List Int)(k:Nat)(s:ByteArray)(w:World)(hr:Rd w S 1 A n c (rc l))(hk:k<=l.length)(hk9:l.length<=1000000000)(hs9:s.size<=1000000000) :
  Calls prog 138 #[.slice A n c,.int .i64 k,.string s] w fun e w'=>e=.returned (.bool (Q3 l k s.data.toList))/\Below w.heap.size w w':=by
 obtain rfl:=hr.rlen;have hle:=hr.le;have hmx:c<=9223372036854775807:=hr.max;have HR:=hid hr;clear hr;have hsz:s.data.toList.length=s.size:=by simp
 have hkl:¬(k:Int) > (l.length:Int):=by omega
 by_cases hshort:l.length<k+s.size
 ·have HE:=hid (Q5Z l k s.data.toList (by omega) hk)
  have hsh:(l.length:Int)-(k:Int)<(s.size:Int):=by omega
  go_enter func138,ntmps138
  go_wp2
  go_ret
  exact⟨Q18 HE.out.symm,Below.refl _ _⟩
 ·have hsh:¬(l.length:Int)-(k:Int)<(s.size:Int):=by omega
  go_enter func138,ntmps138
  go_wp2
  go_loopw [27] (fun i wr=>∃j:Nat,j<=s.size/\i=.int .i64 j/\Hid (Below w.heap.size w wr)/\Hid (∀i,i<j->(h1:i<s.data.toList.length)->(h2:k+i<l.length)->s.data.toList[i].toNat<128/\l[k+i]=s.data.toList[i].toNat)) (fun i _=>s.size-(RowKit.intOf i).toNat)
  case atStart=>exact⟨0,zero_le _,rfl,Below.refl _ _,fun i h=>absurd h (by omega)⟩
  case round =>
   obtain⟨j,hj,rfl,HB,HJ⟩:=hrel;by_cases hlt:j<s.size
   ·have hlt2:j<s.data.toList.length:=by omega
    have hlt3:j<s.data.size:=hlt;have hkj:k+j<l.length:=by omega
    have hkj':(k:Int)+(j:Int)<(l.length:Int):=by omega
    obtain⟨b,o,rfl,hc0⟩:=(HR.out.below HB.out).rune hkj;have hx:s.data.toList[j]=s.data[j]:=by simp
    have hb:=(s.data[j]).toNat_lt
    have hw:wrap32 ((s[j]).toNat:Int)=((s.data[j]).toNat:Int):=by
     show wrap32 ((s.data[j]).toNat:Int)=_;rw[<-IntWalk.i32_left];exact IntWalk.i32_in _ (by omega)
    have HM:=hid (Q9n l k s.data.toList j hlt2 hkj);have HX:=hid hx;rw[hx]at HM
    have HJ2:(s.data[j]).toNat<128->l[k+j]=(s.data[j]).toNat->Hid (∀i,i<j+1->(h1:i<s.data.toList.length)->(h2:k+i<l.length)->s.data.toList[i].toNat<128/\l[k+i]=s.data.toList[i].toNat):=fun e1 e2 i hi h1 h2=>by
     by_cases e:i=j
     ·subst e;rw[HX.out];exact⟨e1,e2⟩
     ·exact HJ.out i (by omega) h1 h2
    clear hx;generalize l[k+j]=r at hc0 HM HJ2;by_cases h128:(s.data[j]).toNat<128
    ·have hge:¬((s.data[j]).toNat:Int) ≥ 128:=by omega
     have hge3:decide ((128:Int)<=((s[j]).toNat:Int))=false:=by show decide ((128:Int)<=((s.data[j]).toNat:Int))=false;rw[decide_eq_false_iff_not];omega
     by_cases hrb:r=(s.data[j]).toNat
     ·have HJ3:=HJ2 h128 hrb
      have hn:(r != ((s.data[j]).toNat:Int))=false:=by simpa using hrb
      clear HJ2 HM;go_wp2
      go_quiet (fail)
      go_wp2
      go_roundw
      case rel=>exact⟨j+1,by omega,by go_num,Q1x HB.out _,HJ3.out⟩
      case measure=>simp[RowKit.intOf];omega
     ·have HE:Hid (Q3 l k s.data.toList=false):=HM.out fun h=>hrb h.2
      have hn:(r != ((s.data[j]).toNat:Int))=true:=by simpa using hrb
      clear HJ2 HM;go_wp2
      go_quiet (fail)
      go_wp2
      go_ret
      exact⟨Q18 HE.out.symm,Q1x HB.out _⟩
    ·have hge:((s.data[j]).toNat:Int) ≥ 128:=by omega
     have hge3:decide ((128:Int)<=((s[j]).toNat:Int))=true:=by show decide ((128:Int)<=((s.data[j]).toNat:Int))=true;rw[decide_eq_true_iff];omega
     have HE:Hid (Q3 l k s.data.toList=false):=HM.out fun h=>h128 h.1
     clear HJ2 HM;go_wp2
     go_quiet (fail)
     go_wp2
     go_ret
     exact⟨Q18 HE.out.symm,Q1x HB.out _⟩
   ·have HE:Hid (Q3 l k s.data.toList=true):=Q9g l k _ (by omega) fun i h=>HJ.out i (by omega) h (by omega)
    go_wp2
    go_ret
    exact⟨Q18 HE.out.symm,HB.out⟩
def Q3Y(l:List Int)(k t:Nat)(bs:List UInt8):Option Nat:=(List.range' k (t+1-bs.length-k)).find? (fun i=>Q3 l i bs)
theorem Qci(l:List Int)(k t:Nat)(bs:List UInt8)(j:Nat)(hk:k<=j)(ht:j+bs.length<=t)(h:∀i,k<=i->i<j->Q3 l i bs=false)(hj:Q3 l j bs=true):Q3Y l k t bs=some j:=by
 rw[Q3Y,List.find?_range'_eq_some];exact⟨hj,mem_range'_1.2 ⟨hk,by omega⟩,fun i h1 h2=>by rw[h i h1 h2];rfl⟩
theorem Qap(l:List Int)(k t:Nat)(bs:List UInt8)(h:∀i,k<=i->i+bs.length<=t->Q3 l i bs=false):Q3Y l k t bs=none:=by
 rw[Q3Y,List.find?_eq_none];intro i hi;have:=mem_range'_1.1 hi
 rw[h i this.1 (by omega)]
 decide
theorem QjF(S:Nat->Prop)(A:Option Addr)(n c:Nat)(l:List Int)(k t:Nat)(s:ByteArray)(w:World)(hr:Rd w S 1 A n c (rc l))(hk:k<=l.length)(ht:t<=l.length)(hk9:l.length<=1000000000)(hs9:s.size<=1000000000) :
  Calls prog 162 #[.slice A n c,.int .i64 k,.int .i64 t,.string s] w fun e w'=>e=.returned (.tuple #[.int .i64 ((Q3Y l k t s.data.toList).getD 0),.bool (Q3Y l k t s.data.toList).isSome])/\Below w.heap.size w w':=by
 obtain rfl:=hr.rlen;have hle:=hr.le;have hmx:c<=9223372036854775807:=hr.max;have HR:=hid hr;clear hr;have hkl:¬(k:Int) > (l.length:Int):=by omega
 have htl:¬(t:Int) > (l.length:Int):=by omega
 have hsz:s.data.toList.length=s.size:=by simp
 have HS:=fun W (j:Nat) (hj:j<=l.length) (h:Below w.heap.size w W)=>hid (Q1Z S A l.length c l j s W (HR.out.below h) hj hk9 hs9)
 have HH:=hid (Qci l k t s.data.toList);have HN:=hid (Qap l k t s.data.toList);generalize Q3Y l k t s.data.toList=q at HH HN ⊢;go_enter func162,ntmps162
 go_wp2
 go_loopw [10] (fun i wr=>∃j:Nat,k<=j/\j<=l.length+1/\i=.int .i64 j/\Hid (Below w.heap.size w wr)/\Hid (∀i,k<=i->i<j->Q3 l i s.data.toList=false)) (fun i _=>l.length+1-(RowKit.intOf i).toNat)
 case atStart=>exact⟨k,le_refl _,by omega,rfl,Below.refl _ _,fun i h1 h2=>absurd h2 (by omega)⟩
 case round =>
  obtain⟨j,hj1,hj2,rfl,HB,HJ⟩:=hrel;by_cases hlt:j+s.size<=t
  ·have hlt2:(j:Int)<=(t:Int)-(s.size:Int):=by omega
   have HC:=HS _ j (by omega) HB.out
   cases hq:Q3 l j s.data.toList with
   |true =>
    rw[hq]at HC;have HE:Hid (q=some j):=HH.out j hj1 (by omega) HJ.out hq
    clear hq;go_wp2_with (go_at_call 138;refine HC.out.mono ?_;rintro e w' ⟨rfl,hb⟩);go_ret2
    rw[HE.out];exact⟨rfl,HB.out.trans (hb.mono HB.out.size)⟩
   |false =>
    rw[hq]at HC
    have HJ2:Hid (∀i,k<=i->i<j+1->Q3 l i s.data.toList=false):=fun i h1 h2=>by
     by_cases e:i=j
     ·subst e;exact hq
     ·exact HJ.out i h1 (by omega)
    clear hq;go_wp2_with (go_at_call 138;refine HC.out.mono ?_;rintro e w' ⟨rfl,hb⟩);go_roundw
    case rel=>exact⟨j+1,by omega,by omega,by go_num,HB.out.trans (hb.mono HB.out.size),HJ2.out⟩
    case measure=>simp[RowKit.intOf];omega
  ·have hlt2:¬(j:Int)<=(t:Int)-(s.size:Int):=by omega
   have HE:Hid (q=none):=HN.out fun i h1 h2=>HJ.out i h1 (by omega)
   go_wp2
   go_ret2
   rw[HE.out];exact⟨rfl,HB.out⟩
def I32(l:List Int):Prop:=∀x∈l,-2147483648<=x/\x<=2147483647
theorem QdS(S:Nat->Prop)(A:Option Addr)(n c:Nat)(l:List Int)(k:Nat)(s:ByteArray)(w:World)(hr:Rd w S 1 A n c (rc l))(hk:k<=l.length)(hk9:l.length<=1000000000)(hs9:s.size<=1000000000)(hi:I32 l) :
  Calls prog 81 #[.slice A n c,.int .i64 k,.string s] w fun e w'=>e=.returned (.bool (Q3 l k s.data.toList))/\Below w.heap.size w w':=by
 obtain rfl:=hr.rlen;have hle:=hr.le;have hmx:c<=9223372036854775807:=hr.max;have HR:=hid hr;have HI:=hid hi;clear hr hi;have hsz:s.data.toList.length=s.size:=by simp
 have hkl:¬(k:Int) > (l.length:Int):=by omega
 by_cases hshort:l.length<k+s.size
 ·have HE:=hid (Q5Z l k s.data.toList (by omega) hk)
  have hsh:(s.size:Int) > (l.length:Int)-(k:Int):=by omega
  go_enter func81,ntmps81
  go_wp2
  go_ret
  exact⟨Q18 HE.out.symm,Below.refl _ _⟩
 ·have hsh:¬(s.size:Int) > (l.length:Int)-(k:Int):=by omega
  go_enter func81,ntmps81
  go_wp2
  go_loopw [7] (fun i wr=>∃j:Nat,j<=s.size/\i=.int .i64 j/\Hid (Below w.heap.size w wr)/\Hid (∀i,i<j->(h1:i<s.data.toList.length)->(h2:k+i<l.length)->s.data.toList[i].toNat<128/\l[k+i]=s.data.toList[i].toNat)) (fun i _=>s.size-(RowKit.intOf i).toNat)
  case atStart=>exact⟨0,zero_le _,rfl,Below.refl _ _,fun i h=>absurd h (by omega)⟩
  case round =>
   obtain⟨j,hj,rfl,HB,HJ⟩:=hrel;by_cases hlt:j<s.size
   ·have hlt2:j<s.data.toList.length:=by omega
    have hlt3:j<s.data.size:=hlt;have hkj:k+j<l.length:=by omega
    have hkj':(k:Int)+(j:Int)<(l.length:Int):=by omega
    obtain⟨b,o,rfl,hc0⟩:=(HR.out.below HB.out).rune hkj;have hx:s.data.toList[j]=s.data[j]:=by simp
    have hb:=(s.data[j]).toNat_lt
    have hw:wrap64 ((s[j]).toNat:Int)=((s.data[j]).toNat:Int):=by
     show wrap64 ((s.data[j]).toNat:Int)=_;exact IntWalk.wrap64_in _ (by omega)
    have hri:=HI.out _ (List.getElem_mem hkj);have HM:=hid (Q9n l k s.data.toList j hlt2 hkj);have HX:=hid hx;rw[hx]at HM
    have HJ2:(s.data[j]).toNat<128->l[k+j]=(s.data[j]).toNat->Hid (∀i,i<j+1->(h1:i<s.data.toList.length)->(h2:k+i<l.length)->s.data.toList[i].toNat<128/\l[k+i]=s.data.toList[i].toNat):=fun e1 e2 i hi h1 h2=>by
     by_cases e:i=j
     ·subst e;rw[HX.out];exact⟨e1,e2⟩
     ·exact HJ.out i (by omega) h1 h2
    clear hx;generalize l[k+j]=r at hc0 HM HJ2 hri;by_cases h128:(s.data[j]).toNat<128
    ·have hge:¬((s.data[j]).toNat:Int) > 127:=by omega
     have hge3:decide ((127:Int)<((s[j]).toNat:Int))=false:=by show decide ((127:Int)<((s.data[j]).toNat:Int))=false;rw[decide_eq_false_iff_not];omega
     by_cases hrb:r=(s.data[j]).toNat
     ·have HJ3:=HJ2 h128 hrb
      have hn:(r != ((s.data[j]).toNat:Int))=false:=by simpa using hrb
      clear HJ2 HM;go_wp2
      go_quiet (fail)
      go_wp2
      go_roundw
      case rel=>exact⟨j+1,by omega,by go_num,Q1x HB.out _,HJ3.out⟩
      case measure=>simp[RowKit.intOf];omega
     ·have HE:Hid (Q3 l k s.data.toList=false):=HM.out fun h=>hrb h.2
      have hn:(r != ((s.data[j]).toNat:Int))=true:=by simpa using hrb
      clear HJ2 HM;go_wp2
      go_quiet (fail)
      go_wp2
      go_ret
      exact⟨Q18 HE.out.symm,Q1x HB.out _⟩
    ·have hge:((s.data[j]).toNat:Int) > 127:=by omega
     have hge3:decide ((127:Int)<((s[j]).toNat:Int))=true:=by show decide ((127:Int)<((s.data[j]).toNat:Int))=true;rw[decide_eq_true_iff];omega
     have HE:Hid (Q3 l k s.data.toList=false):=HM.out fun h=>h128 h.1
     clear HJ2 HM;go_wp2
     go_quiet (fail)
     go_wp2
     go_ret
     exact⟨Q18 HE.out.symm,Q1x HB.out _⟩
   ·have HE:Hid (Q3 l k s.data.toList=true):=Q9g l k _ (by omega) fun i h=>HJ.out i (by omega) h (by omega)
    go_wp2
    go_ret
    exact⟨Q18 HE.out.symm,HB.out⟩
def Q1D(l:List Int):List UInt8:=l.flatMap Q2U
theorem Qcp(r:Int)(h:0<Qy r):Qgv r=encodeRune r:=by
 unfold Qy at h;split at h
 ·omega
 ·rename_i h1
  have hv:Utf8.valid r=true:=by simp[Utf8.valid];omega
  by_cases h2:r<128
  ·rw[Qgt r (by omega) h2,encodeRune,encodeRuneZ_one (by omega) (by omega)];rfl
  ·unfold Qgv Utf8.encode
   simp only[hv,if_true];rw[if_neg (by omega)]
   by_cases h3:r<2048
   ·rw[if_pos (by omega),encodeRune,encodeRuneZ_two (by omega) (by omega)]
    simp only[map_cons,map_nil];rw[show((192+r / 64).toNat)=192+r.toNat / 64 by omega,show((128+r % 64).toNat)=128+r.toNat % 64 by omega]
   ·rw[if_neg (by omega)]
    by_cases h4:r<65536
    ·rw[if_pos (by omega),encodeRune,encodeRuneZ_three (by omega)]
     simp only[map_cons,map_nil];rw[show((224+r / 4096).toNat)=224+r.toNat / 4096 by omega,show((128+r / 64 % 64).toNat)=128+r.toNat / 64 % 64 by omega,show((128+r % 64).toNat)=128+r.toNat % 64 by omega]
    ·rw[if_neg (by omega),encodeRune,encodeRuneZ_four (by omega) (by omega)]
     simp only[map_cons,map_nil];rw[show((240+r / 262144).toNat)=240+r.toNat / 262144 by omega,show((128+r / 4096 % 64).toNat)=128+r.toNat / 4096 % 64 by omega,show((128+r / 64 % 64).toNat)=128+r.toNat / 64 % 64 by omega,show((128+r % 64).toNat)=128+r.toNat % 64 by omega]
theorem Qcd(r:Int):(Q2U r).length<=4:=by
 unfold Q2U;split
 ·simp
 ·rw[Q4z r (by omega)];unfold Qy;repeat' split
  all_goals omega
theorem Qiw(r:Int)(h:0<Qy r):(Utf8.encode r).data.toList=Q2U r:=by rw[Q2U,if_neg (by omega)];exact Qcp r h
theorem Q7G(l:List Int):(Q1D l).length<=4 * l.length:=by
 induction l with
 |nil=>simp[Q1D]
 |cons r t ih =>
  have:=Qcd r
  simp only[Q1D,List.flatMap_cons,List.length_append,List.length_cons]at ih ⊢;omega
theorem QdO(l:List Int)(k:Nat)(h:k<l.length):Q1D (l.take (k+1))=Q1D (l.take k)++Q2U l[k]:=by
 rw[Q1D,Q1D,List.take_succ_eq_append_getElem h,List.flatMap_append];simp
theorem QoW:(prog.info? 5).map (fun i=>(i.zero,i.size,i.bytes))=some (some (.int .u8 0),1,1):=by kernel_rfl
theorem Qd1(w:World){ops:Array Oper}{rest:List Oper}{o:Oper}{a:Act}{Q:Exit->Act->World->Prop}(hgd:o.guard=none)(s x:Operand)
  (ho:o.op=.call { callee:=.builtin .append,args:=#[s,x],argTypes:=#[22,22] })
  (base:Nat) (v:Value) (n:Nat) (xs:List UInt8) (hs:a.eval s=v) (hown:w.ownsRow base 5 1 v n (bc xs))
  (S:Nat->Prop) (A:Option Addr) (m c:Nat) (ys:List UInt8) (hx:a.eval x=.slice A m c) (hr:Rd w S 1 A m c (bc ys))
  (hlen:n+m<=1000000000) (hbase:base<=w.heap.size)
  (h:∀A' c' w',w'.ownsRow base 5 1 (.slice A' (n+m) c') (n+m) (bc (xs++ys))->w.grownBy w' v.ownBlock ->
    c'<=9223372036854775807->wpList prog ops Q rest (a.put o.dst (.slice A' (n+m) c')) w') :
  wpList prog ops Q (o::rest) a w:=by
 obtain⟨i0,hi,hz0,hz1,hz2⟩:=info_parts QoW;refine Q41 w hgd s x 22 ho base 5 i0 _ 1 1 underlying22 hi hz0 hz1 hz2 rfl (by omega) v n (bc xs) hs hown S A m c (bc ys) hx hr (Qpx ys) (by simp only[maxLen];omega) (by omega) hbase ?_
 intro v' w' h1 h2 h3;obtain⟨A',c',rfl,hr'⟩:=Q2q h1;exact h A' c' w' (by simpa[bc]using h1) h2 hr'.max
theorem Qg7(w:World){ops:Array Oper}{rest:List Oper}{o:Oper}{a:Act}{Q:Exit->Act->World->Prop}(hgd:o.guard=none)(s x:Operand)
  (ho:o.op=.call { callee:=.builtin .append,args:=#[s,x],argTypes:=#[22,9] })
  (base:Nat) (v:Value) (n:Nat) (xs:List UInt8) (hs:a.eval s=v) (hown:w.ownsRow base 5 1 v n (bc xs))
  (str:ByteArray) (hx:a.eval x=.string str) (hlen:n+str.size<=1000000000) (hbase:base<=w.heap.size)
  (h:∀A' c' w',w'.ownsRow base 5 1 (.slice A' (n+str.size) c') (n+str.size) (bc (xs++str.data.toList))->w.grownBy w' v.ownBlock ->
    c'<=9223372036854775807->wpList prog ops Q rest (a.put o.dst (.slice A' (n+str.size) c')) w') :
  wpList prog ops Q (o::rest) a w:=by
 obtain⟨i0,hi,hz0,hz1,hz2⟩:=info_parts QoW;refine wpList_append_own_string w hgd s x 22 9 ho base 5 i0 underlying22 underlying9 hi hz0 hz1 hz2 v n (bc xs) hs hown str hx (by simp only[maxLen];omega) (by omega) hbase ?_
 intro v' w' h1 h2 h3;obtain⟨A',c',rfl,hr'⟩:=Q2q h1;exact h A' c' w' (by simpa[bc,strCells]using h1) h2 hr'.max
theorem Q9P{w:World}{base:Nat}{e:TypeId}{v:Value}{n:Nat}{xs:List UInt8}(h:w.ownsRow base e 1 v n (bc xs)):n=xs.length:=by have:=h.1;simpa using this.symm
theorem QiX(S:Nat->Prop)(A:Option Addr)(n c:Nat)(l:List Int)(w:World)(hr:Rd w S 1 A n c (rc l))(hn9:l.length<=100000000) :
  Calls prog 65 #[.slice A n c] w fun e w'=>∃v,e=.returned v/\(∃n',w'.ownsRow w.heap.size 5 1 v n' (bc (Q1D l)))/\Below w.heap.size w w':=by
 obtain rfl:=hr.rlen;have hle:=hr.le;have hmx:c<=9223372036854775807:=hr.max;have HR:=hid hr;clear hr;go_enter func65,ntmps65
 go_wp2
 go_loopw [3,8] (fun v i wr=>∃(k:Nat),k<=l.length/\i=.int .i64 k/\Hid (∃n',wr.ownsRow w.heap.size 5 1 v n' (bc (Q1D (l.take k))))/\Hid (Below w.heap.size w wr))
  (fun _ i _=>l.length-(RowKit.intOf i).toNat)
 case atStart=>exact⟨0,zero_le _,rfl,⟨0,World.ownsRow_nil w w.heap.size 5 1⟩,Below.refl _ _⟩
 case round =>
  obtain⟨k,hk,rfl,HO,HB⟩:=hrel;obtain⟨no,HO⟩:=HO.out;have hno:=Q9P HO;have hno2:no<=400000000:=by have:=Q7G (l.take k);simp at this;omega
  clear hno;obtain⟨Ao,co,rfl,hro⟩:=Q2q HO;have hco2:co<=9223372036854775807:=hro.max;have HO:=hid HO;clear hro;by_cases hlt:k<l.length
  ·obtain⟨b,u,rfl,hc0⟩:=(HR.out.below HB.out).rune hlt
   have HST:=hid (QdO l k hlt);have HW:=fun w=>hid (Q8K l[k] w)
   have HE:=hid (Qiw l[k]);have hes:=Qcd l[k];have HZ:=hid (fun(h:Qy l[k]=0)=>(by rw[Q2U,if_pos h]:Q2U l[k]=[]))
   generalize l[k]=r at hc0 HST HW HE hes HZ;by_cases h0:Qy r=0
   ·have hw0:¬((Qy r:Nat):Int) > 0:=by omega
    have HZ2:=hid (HZ.out h0);clear HZ HE h0;generalize Qy r=wd at HW hw0;go_wp2_with (go_at_call 104;refine(HW _).out.mono ?_;rintro e w' ⟨rfl,rfl⟩);go_roundw
    case rel=>exact⟨k+1,by omega,by go_num,⟨_,by rw[HST.out,HZ2.out,List.append_nil];exact HO.out⟩,HB.out⟩
    case measure=>simp[RowKit.intOf];omega
   ·have hw0:((Qy r:Nat):Int) > 0:=by omega
    have HE2:=hid (HE.out (by omega))
    have hsz:(Utf8.encode r).size<=4:=by
     have e:(Utf8.encode r).data.toList.length=(Utf8.encode r).size:=by simp
     rw[<-e,HE2.out];exact hes
    clear HZ HE h0;generalize Qy r=wd at HW hw0
    go_wp2_with (first
     |(go_at_call 104;refine(HW _).out.mono ?_;rintro e w' ⟨rfl,rfl⟩)
     |(at_builtin
       refine Qg7 _ rfl (.tmp 15) (.tmp 17) rfl w.heap.size _ _ _ rfl HO.out (Utf8.encode r) rfl (by omega) HB.out.size ?_
       intro A4 c4 w4 hown4 hg4 _;have hb4:=Q6J HB.out HB.out.size HO.out hg4;rw[HE2.out]at hown4;have HB4:=hid hb4;have HO4:=hid hown4;clear hown4 hg4 hb4))
    go_roundw
    case rel=>exact⟨k+1,by omega,by go_num,⟨_,by rw[HST.out];exact HO4.out⟩,HB4.out⟩
    case measure=>simp[RowKit.intOf];omega
  ·have e:l.take k=l:=List.take_of_length_le (by omega)
   rw[e]at HO;go_wp2
   go_ret
   exact⟨_,rfl,⟨_,HO.out⟩,HB.out⟩
end
section
open Go.RowKit Go.Lib
def Q6r(r:Int):Bool:=(Q5l r).2
def Q7d(r:Int):Bool:=(Qac r).2
def Q1p(l:List Int)(p n:Nat):Bool:=decide (0<n)&&(l[p+n]? == some 59)
def Q5m(l:List Int)(k:Nat):Nat:=((l.drop (k+2)).takeWhile Q6r).length
def Q5O(l:List Int)(k:Nat):Nat:=((l.drop (k+3)).takeWhile Q7d).length
def Q1e(l:List Int)(k:Nat):Nat×Nat×Bool :=
 if Q3 l k [38,35,120]&&Q1p l (k+3) (Q5O l k)then(3,k+4+Q5O l k,true)
 else if Q3 l k [38,35]&&Q1p l (k+2) (Q5m l k)then(3,k+3+Q5m l k,true)
 else if Q1p l (k+1) (Qk l (k+1))then(2,k+2+Qk l (k+1),true)
 else(11,k+1,false)
theorem Qgu(l:List Int)(k p:Nat):Qk l (k+p)=Qk (l.drop k) p:=by
 rw[Qk,Qk,List.getElem?_drop,List.drop_drop]
theorem Qmd(l:List Int)(k:Nat):k<(Q1e l k).2.1:=by
 unfold Q1e;repeat' split
 all_goals (simp only;omega)
theorem Qav(l:List Int)(p n:Nat)(h:Q1p l p n=true):p+n<l.length:=by
 rw[Q1p,Bool.and_eq_true,beq_iff_eq]at h;exact(List.getElem?_eq_some_iff.1 h.2).1
theorem Qnf(l:List Int)(k:Nat)(hk:k<l.length):(Q1e l k).2.1<=l.length:=by
 unfold Q1e;split
 ·rename_i h
  have:=Qav _ _ _ (Bool.and_eq_true_iff.1 h).2
  simp only;omega
 ·split
  ·rename_i h
   have:=Qav _ _ _ (Bool.and_eq_true_iff.1 h).2
   simp only;omega
  ·split
   ·rename_i h
    have:=Qav _ _ _ h
    simp only;omega
   ·simp only;omega
end
section
open Go.RowKit Go.Lib Tryz
theorem QJ{w W:World}{b o n:Nat}(h:w.there b o n)(hb:Below w.heap.size w W)(hlt:b<w.heap.size):W.there b o n:=fun j hj=>by
 obtain⟨h1,h2⟩:=h j hj;refine⟨?_,?_⟩
 ·rw[World.cell?_of_block (hb.block _ hlt)];exact h1
 ·rw[World.frozen?_of_block (hb.block _ hlt)];exact h2
theorem Q2K(w:World)(cs:Array Value)(t:TypeId):(w.alloc (.cells cs t)).there w.heap.size 0 cs.size:=fun j hj=>by
 refine⟨?_,by simp⟩
 rw[World.cell?_alloc_at _ _ _ _ rfl];simp[hj]
theorem Qe{B:Nat}{w0 w:World}(h:Below B w0 w)(b:Nat)(hb:B<=b)(vs:List Value)(o:Nat):Below B w0 (w.setCells b o vs):=by
 induction vs generalizing o w with
 |nil=>exact h
 |cons v r ih=>exact ih (h.setCell hb _) (o+1)
theorem Qv{P:Program}{T:TypeId}{d:TypeDesc}(W:World)(B:Nat)(vs:List Value)(ht:W.there B 0 vs.length)(hi:(P.info? T).map (·.size)=some vs.length)
  (hu:P.underlying T=some d) (hd:d.isRow=true):(loadVar T ⟨B,0,none⟩).run P (W.setCells B 0 vs)=.ok (.agg vs.toArray) (W.setCells B 0 vs) :=
 run_loadVar_mid (P:=P) (W.setCells B 0 vs) B 0 T vs d (World.rangeAt_setCells_same W B 0 vs ht) hu hd hi
theorem Q5{w:World}{b n:Nat}(h:w.there b 0 n)(i:Nat)(hi:i<n):(∃v,w.cell? ⟨b,i,none⟩=some v)/\w.frozen? ⟨b,i,none⟩=false:=by
 have:=h i hi
 rw[Nat.zero_add]at this;exact⟨Option.isSome_iff_exists.1 this.1,this.2⟩
theorem Qr{P:Program}{fn:Func}{t:Tmp}{T:TypeId}{a:Addr}{v:Value}{w:World}(h:fn.results=#[.cell t T])(tmps:Array Value)
  (ha:tmps.getD t undef=.pointer (some a)) (hl:(loadVar T a).run P w=.ok v w):(results fn tmps).run P w=.ok v w:=by
 have ha':tmps[t]?.getD undef=.pointer (some a):=by simpa using ha
 simp[results,h,ha',asAddr,hl]
theorem Q42{P:Program}{fn:Func}{t u:Tmp}{T:TypeId}{a:Addr}{v:Value}{w:World}(h:fn.results=#[.cell t T,.tmp u])(tmps:Array Value)
  (ha:tmps.getD t undef=.pointer (some a)) (hl:(loadVar T a).run P w=.ok v w):(results fn tmps).run P w=.ok (.tuple #[v,tmps.getD u undef]) w:=by
 have ha':tmps[t]?.getD undef=.pointer (some a):=by simpa using ha
 simp[results,h,ha',asAddr,hl]
theorem Qgf(r:Int)(w:World):Calls prog 152 #[.int .i32 r] w fun e w'=>e=.returned (.bool (Q6r r))/\w=w':=by
 have HD:=hid (Qcu r w);generalize (Q5l r).1=d1 at HD;have HQ:Hid (Q6r r=(Q5l r).2):=rfl;generalize (Q5l r).2=d2 at HD HQ;go_enter func152,ntmps152
 go_wp2_with fail
 refine HD.out.mono ?_;rintro e w' ⟨rfl,rfl⟩;go_wp2
 go_ret
 exact⟨Q18 HQ.out.symm,rfl⟩
theorem QlT(r:Int)(w:World):Calls prog 153 #[.int .i32 r] w fun e w'=>e=.returned (.bool (Q7d r))/\w=w':=by
 have HD:=hid (QmR r w);generalize (Qac r).1=d1 at HD;have HQ:Hid (Q7d r=(Qac r).2):=rfl;generalize (Qac r).2=d2 at HD HQ;go_enter func153,ntmps153
 go_wp2_with fail
 refine HD.out.mono ?_;rintro e w' ⟨rfl,rfl⟩;go_wp2
 go_ret
 exact⟨Q18 HQ.out.symm,rfl⟩
theorem QiO(w:World):Q7p prog 152 #[] Q6r w:=fun W r _=>(Qgf r W).mono fun _ _ ⟨h1,h2⟩=>⟨h1,h2 ▸ Below.refl _ _⟩
theorem Qoh(w:World):Q7p prog 153 #[] Q7d w:=fun W r _=>(QlT r W).mono fun _ _ ⟨h1,h2⟩=>⟨h1,h2 ▸ Below.refl _ _⟩
theorem QiP:∀args w,(callFunc 152 args).run prog w=.ok (.enter 152 args) w:=enters_of func152 (by kernel_rfl) rfl
theorem QoE:∀args w,(callFunc 153 args).run prog w=.ok (.enter 153 args) w:=enters_of func153 (by kernel_rfl) rfl
theorem Q8x(S:Nat->Prop)(A:Option Addr)(n c:Nat)(l:List Int)(p m:Nat)(w:World)(hr:Rd w S 1 A n c (rc l))(hp:p<=2000000000)(hm:m<=2000000000) :
  Calls prog 154 #[.slice A n c,.int .i64 p,.int .i64 m] w fun e w'=>e=.returned (.bool (Q1p l p m))/\w=w':=by
 obtain rfl:=hr.rlen;have hle:=hr.le;have hmx:c<=9223372036854775807:=hr.max;by_cases h0:0<m
 ·have h0i:(m:Int) > 0:=by omega
  by_cases hlt:p+m<l.length
  ·have hlti:(p:Int)+(m:Int)<(l.length:Int):=by omega
   obtain⟨b,o,rfl,hc0⟩:=hr.rune hlt
   have HE:Hid (Q1p l p m=(l[p+m] == 59)):=by
    rw[Hid,Q1p,decide_eq_true h0,getElem?_eq_getElem hlt,Bool.true_and];rfl
   clear hr;generalize l[p+m]=r at hc0 HE;generalize Q1p l p m=q at HE ⊢;go_enter func154,ntmps154
   go_wp2
   go_ret
   exact⟨Q18 HE.out.symm,rfl⟩
  ·have hlti:¬(p:Int)+(m:Int)<(l.length:Int):=by omega
   have HE:Hid (Q1p l p m=false):=by rw[Hid,Q1p,decide_eq_true h0,List.getElem?_eq_none (by omega)];rfl
   clear hr;go_enter func154,ntmps154
   go_wp2
   go_ret
   exact⟨Q18 HE.out.symm,rfl⟩
 ·have h0i:¬(m:Int) > 0:=by omega
  have HE:Hid (Q1p l p m=false):=by rw[Hid,Q1p,decide_eq_false h0];rfl
  clear hr;go_enter func154,ntmps154
  go_wp2
  go_ret
  exact⟨Q18 HE.out.symm,rfl⟩
def Q20(t:Nat×Nat×Bool)(k:Nat):Value:=.agg #[.int .i64 t.1,.int .i64 k,.int .i64 t.2.1,.bool t.2.2]
theorem QlN(p:Int->Bool)(l:List Int)(k j:Nat):Q2L p l ((min (k+j) l.length:Nat):Int)=((l.drop (k+j)).takeWhile p).length:=by
 rw[Q2L,if_neg (by omega),Int.toNat_natCast]
 by_cases h:k+j<=l.length
 ·rw[Nat.min_eq_left h]
 ·rw[Nat.min_eq_right (by omega),List.drop_eq_nil_of_le (le_refl _),List.drop_eq_nil_of_le (by omega)]
theorem QnU(S:Nat->Prop)(A:Option Addr)(n c:Nat)(l:List Int)(k:Nat)(w:World)(hr:Rd w S 1 A n c (rc l))(hk:k<l.length)(hl9:l.length<=1000000000) :
  Calls prog 130 #[.slice A n c,.int .i64 k] w fun e w'=>e=.returned (Q20 (Q1e l k) k)/\Below w.heap.size w w':=by
 obtain rfl:=hr.rlen;have hle:=hr.le;have hmx:c<=9223372036854775807:=hr.max;have HR:=hid hr
 have HRN:∀W,Below w.heap.size w W->Hid (Calls prog 131 #[.slice A l.length c,.int .i64 (min (k+2) l.length:Nat),.func (.func 152) #[] #[]] W fun e w'=>e=.returned (.int .i64 (Q5m l k))/\Below W.heap.size W w'):=fun W h=>by
  have:=Q85 S A l.length c l (min (k+2) l.length:Nat) 152 #[] Q6r W QiP (HR.out.below h) (QiO W)
  rwa [QlN]at this
 have HRX:∀W,Below w.heap.size w W->Hid (Calls prog 131 #[.slice A l.length c,.int .i64 (min (k+3) l.length:Nat),.func (.func 153) #[] #[]] W fun e w'=>e=.returned (.int .i64 (Q5O l k))/\Below W.heap.size W w'):=fun W h=>by
  have:=Q85 S A l.length c l (min (k+3) l.length:Nat) 153 #[] Q7d W QoE (HR.out.below h) (Qoh W)
  rwa [QlN]at this
 have hm2:∀ts t W,(Builtin.min_ ts t #[.int .i64 ((k:Int)+2),.int .i64 (l.length:Int)]).run prog W=.ok (.int .i64 (min (k+2) l.length:Nat)) W:=fun ts t W=>by
  rw[run_min_int2];congr 2
  split<;>omega
 have hm3:∀ts t W,(Builtin.min_ ts t #[.int .i64 ((k:Int)+3),.int .i64 (l.length:Int)]).run prog W=.ok (.int .i64 (min (k+3) l.length:Nat)) W:=fun ts t W=>by
  rw[run_min_int2];congr 2
  split<;>omega
 have HS1:∀W,Below w.heap.size w W->Hid (Calls prog 138 #[.slice A l.length c,.int .i64 k,.string ⟨#[38,35,120]⟩] W fun e w'=>e=.returned (.bool (Q3 l k [38,35,120]))/\Below W.heap.size W w') :=
  fun W h=>Q1Z S A l.length c l k ⟨#[38,35,120]⟩ W (HR.out.below h) (by omega) hl9 (by decide)
 have HS2:∀W,Below w.heap.size w W->Hid (Calls prog 138 #[.slice A l.length c,.int .i64 k,.string ⟨#[38,35]⟩] W fun e w'=>e=.returned (.bool (Q3 l k [38,35]))/\Below W.heap.size W w') :=
  fun W h=>Q1Z S A l.length c l k ⟨#[38,35]⟩ W (HR.out.below h) (by omega) hl9 (by decide)
 have hdn:Q5m l k<=1000000000:=by have:=(List.takeWhile_sublist Q6r (l:=l.drop (k+2))).length_le;rw[length_drop]at this;unfold Q5m;omega
 have hxn:Q5O l k<=1000000000:=by have:=(List.takeWhile_sublist Q7d (l:=l.drop (k+3))).length_le;rw[length_drop]at this;unfold Q5O;omega
 have hln:Qk l (k+1)<=1000000000:=by
  rw[Qgu l k 1];unfold Qk;split
  ·omega
  ·split
   ·have:=(List.takeWhile_sublist Qp (l:=(l.drop k).drop 1)).length_le
    simp only[length_drop]at this;omega
   ·omega
 have HLD:∀W,Below w.heap.size w W->Hid (Calls prog 136 #[.slice A l.length c,.int .i64 ((k:Int)+1)] W fun e w'=>e=.returned (.int .i64 (Qk l (k+1)))/\Below W.heap.size W w'):=fun W h=>by
  rw[show((k:Int)+1)=((k+1:Nat):Int) by omega]
  exact Q8A S A l.length c l (k+1) W (HR.out.below h) (by omega)
 have HE1:∀W,Below w.heap.size w W->Hid (Calls prog 154 #[.slice A l.length c,.int .i64 ((k:Int)+3),.int .i64 (Q5O l k)] W fun e w'=>e=.returned (.bool (Q1p l (k+3) (Q5O l k)))/\W=w'):=fun W h=>by
  rw[show((k:Int)+3)=((k+3:Nat):Int) by omega]
  exact Q8x S A l.length c l (k+3) (Q5O l k) W (HR.out.below h) (by omega) (by omega)
 have HE2:∀W,Below w.heap.size w W->Hid (Calls prog 154 #[.slice A l.length c,.int .i64 ((k:Int)+2),.int .i64 (Q5m l k)] W fun e w'=>e=.returned (.bool (Q1p l (k+2) (Q5m l k)))/\W=w'):=fun W h=>by
  rw[show((k:Int)+2)=((k+2:Nat):Int) by omega]
  exact Q8x S A l.length c l (k+2) (Q5m l k) W (HR.out.below h) (by omega) (by omega)
 have HE3:∀W,Below w.heap.size w W->Hid (Calls prog 154 #[.slice A l.length c,.int .i64 ((k:Int)+1),.int .i64 (Qk l (k+1))] W fun e w'=>e=.returned (.bool (Q1p l (k+1) (Qk l (k+1))))/\W=w'):=fun W h=>by
  rw[show((k:Int)+1)=((k+1:Nat):Int) by omega]
  exact Q8x S A l.length c l (k+1) (Qk l (k+1)) W (HR.out.below h) (by omega) (by omega)
 have HREF:Hid (Q1e l k=if Q3 l k [38,35,120]&&Q1p l (k+3) (Q5O l k)then(3,k+4+Q5O l k,true)
  else if Q3 l k [38,35]&&Q1p l (k+2) (Q5m l k)then(3,k+3+Q5m l k,true)
  else if Q1p l (k+1) (Qk l (k+1))then(2,k+2+Qk l (k+1),true)else(11,k+1,false)):=rfl
 generalize Q3 l k [38,35,120]=s1 at HS1 HREF;generalize Q3 l k [38,35]=s2 at HS2 HREF;generalize Q1p l (k+3) (Q5O l k)=e1 at HE1 HREF;generalize Q1p l (k+2) (Q5m l k)=e2 at HE2 HREF;generalize Q1p l (k+1) (Qk l (k+1))=e3 at HE3 HREF;generalize Q5O l k=x at HRX HE1 HREF hxn;generalize Q5m l k=nd at HRN HE2 HREF hdn;generalize Qk l (k+1)=d at HLD HE3 HREF hln;generalize min (k+2) l.length=m2 at HRN hm2;generalize min (k+3) l.length=m3 at HRX hm3;clear hr;go_enter func130,ntmps130
 go_wp2_with fail
 have HTH0:=hid (Q2K w #[.int .i64 0,.int .i64 0,.int .i64 0,.bool false] 126);have HB0:=hid (ba w (.cells #[.int .i64 0,.int .i64 0,.int .i64 0,.bool false] 126));have HSZ:Hid (w.heap.size+1<=(w.alloc (.cells #[.int .i64 0,.int .i64 0,.int .i64 0,.bool false] 126)).heap.size):=by simp[Hid]
 generalize w.alloc (.cells #[.int .i64 0,.int .i64 0,.int .i64 0,.bool false] 126)=W0 at HTH0 HB0 HSZ;refine(HRN _ HB0.out).out.mono ?_;rintro e w1 ⟨rfl,hb1⟩;have HB1:=hid (HB0.out.trans (hb1.mono HB0.out.size));have HTH1:=hid (QJ HTH0.out hb1 (by have:=HSZ.out;omega))
 have HLT:Hid (w.heap.size<w1.heap.size):=by have:=HSZ.out;have:=hb1.size;show _<_;omega
 clear hb1;go_wp2_with fail
 refine(HRX _ HB1.out).out.mono ?_;rintro e w2 ⟨rfl,hb2⟩;have HB2:=hid (HB1.out.trans (hb2.mono HB1.out.size));have HTH2:=hid (QJ HTH1.out hb2 HLT.out);have HLT:=hid (Nat.lt_of_lt_of_le HLT.out hb2.size);clear hb2;go_wp2_with fail
 refine(HLD _ HB2.out).out.mono ?_;rintro e w3 ⟨rfl,hb3⟩;have HB3:=hid (HB2.out.trans (hb3.mono HB2.out.size));have HTH3:=hid (QJ HTH2.out hb3 HLT.out);have HLT:=hid (Nat.lt_of_lt_of_le HLT.out hb3.size);clear hb3;go_wp2_with fail
 refine(HS1 _ HB3.out).out.mono ?_;rintro e w4 ⟨rfl,hb4⟩;have HB4:=hid (HB3.out.trans (hb4.mono HB3.out.size));have HTH4:=hid (QJ HTH3.out hb4 HLT.out);have HLT:=hid (Nat.lt_of_lt_of_le HLT.out hb4.size);clear hb4 HB0 HB1 HB2 HB3 HTH0 HTH1 HTH2 HTH3 HRN HRX HLD HS1;cases s1 with
 |true =>
  go_wp2_with fail
  refine(HE1 _ HB4.out).out.mono ?_;rintro e wx ⟨rfl,rfl⟩;cases e1 with
  |true =>
   have HV:Hid (Q20 (Q1e l k) k=.agg #[.int .i64 3,.int .i64 k,.int .i64 ((k:Int)+4+(x:Int)),.bool true]):=by rw[Hid,HREF.out];simp[Q20]
   have HL9:=hid (Qv (P:=prog) (T:=126) w4 w.heap.size [.int .i64 3,.int .i64 k,.int .i64 ((k:Int)+4+(x:Int)),.bool true] HTH4.out (by kernel_rfl) underlying126 rfl)
   have HB9:=hid (Qe HB4.out w.heap.size (le_refl _) [.int .i64 3,.int .i64 k,.int .i64 ((k:Int)+4+(x:Int)),.bool true] 0);obtain⟨⟨z0,hz0⟩,hf0⟩:=Q5 HTH4.out 0 (by decide)
   obtain⟨⟨z1,hz1⟩,hf1⟩:=Q5 HTH4.out 1 (by decide)
   obtain⟨⟨z2,hz2⟩,hf2⟩:=Q5 HTH4.out 2 (by decide)
   obtain⟨⟨z3,hz3⟩,hf3⟩:=Q5 HTH4.out 3 (by decide)
   go_wp2
   refine bodyPost_ret (Qr rfl _ rfl HL9.out) rfl ?_;rw[HV.out];exact⟨rfl,HB9.out⟩
  |false =>
   go_wp2_with fail
   refine(HS2 _ HB4.out).out.mono ?_;rintro e w5 ⟨rfl,hb5⟩;have HB5:=hid (HB4.out.trans (hb5.mono HB4.out.size));have HTH5:=hid (QJ HTH4.out hb5 HLT.out);clear hb5;cases s2 with
   |true =>
    go_wp2_with fail
    refine(HE2 _ HB5.out).out.mono ?_;rintro e wx ⟨rfl,rfl⟩;cases e2 with
    |true =>
     have HV:Hid (Q20 (Q1e l k) k=.agg #[.int .i64 3,.int .i64 k,.int .i64 ((k:Int)+3+(nd:Int)),.bool true]):=by rw[Hid,HREF.out];simp[Q20]
     have HL9:=hid (Qv (P:=prog) (T:=126) w5 w.heap.size [.int .i64 3,.int .i64 k,.int .i64 ((k:Int)+3+(nd:Int)),.bool true] HTH5.out (by kernel_rfl) underlying126 rfl)
     have HB9:=hid (Qe HB5.out w.heap.size (le_refl _) [.int .i64 3,.int .i64 k,.int .i64 ((k:Int)+3+(nd:Int)),.bool true] 0);obtain⟨⟨z0,hz0⟩,hf0⟩:=Q5 HTH5.out 0 (by decide)
     obtain⟨⟨z1,hz1⟩,hf1⟩:=Q5 HTH5.out 1 (by decide)
     obtain⟨⟨z2,hz2⟩,hf2⟩:=Q5 HTH5.out 2 (by decide)
     obtain⟨⟨z3,hz3⟩,hf3⟩:=Q5 HTH5.out 3 (by decide)
     go_wp2
     refine bodyPost_ret (Qr rfl _ rfl HL9.out) rfl ?_;rw[HV.out];exact⟨rfl,HB9.out⟩
    |false =>
     go_wp2_with fail
     refine(HE3 _ HB5.out).out.mono ?_;rintro e wx ⟨rfl,rfl⟩;cases e3 with
     |true =>
      have HV:Hid (Q20 (Q1e l k) k=.agg #[.int .i64 2,.int .i64 k,.int .i64 ((k:Int)+2+(d:Int)),.bool true]):=by rw[Hid,HREF.out];simp[Q20]
      have HL9:=hid (Qv (P:=prog) (T:=126) w5 w.heap.size [.int .i64 2,.int .i64 k,.int .i64 ((k:Int)+2+(d:Int)),.bool true] HTH5.out (by kernel_rfl) underlying126 rfl)
      have HB9:=hid (Qe HB5.out w.heap.size (le_refl _) [.int .i64 2,.int .i64 k,.int .i64 ((k:Int)+2+(d:Int)),.bool true] 0);obtain⟨⟨z0,hz0⟩,hf0⟩:=Q5 HTH5.out 0 (by decide)
      obtain⟨⟨z1,hz1⟩,hf1⟩:=Q5 HTH5.out 1 (by decide)
      obtain⟨⟨z2,hz2⟩,hf2⟩:=Q5 HTH5.out 2 (by decide)
      obtain⟨⟨z3,hz3⟩,hf3⟩:=Q5 HTH5.out 3 (by decide)
      go_wp2
      refine bodyPost_ret (Qr rfl _ rfl HL9.out) rfl ?_;rw[HV.out];exact⟨rfl,HB9.out⟩
     |false =>
      have HV:Hid (Q20 (Q1e l k) k=.agg #[.int .i64 11,.int .i64 k,.int .i64 ((k:Int)+1),.bool false]):=by rw[Hid,HREF.out];simp[Q20]
      have HL9:=hid (Qv (P:=prog) (T:=126) w5 w.heap.size [.int .i64 11,.int .i64 k,.int .i64 ((k:Int)+1),.bool false] HTH5.out (by kernel_rfl) underlying126 rfl)
      have HB9:=hid (Qe HB5.out w.heap.size (le_refl _) [.int .i64 11,.int .i64 k,.int .i64 ((k:Int)+1),.bool false] 0);obtain⟨⟨z0,hz0⟩,hf0⟩:=Q5 HTH5.out 0 (by decide)
      obtain⟨⟨z1,hz1⟩,hf1⟩:=Q5 HTH5.out 1 (by decide)
      obtain⟨⟨z2,hz2⟩,hf2⟩:=Q5 HTH5.out 2 (by decide)
      obtain⟨⟨z3,hz3⟩,hf3⟩:=Q5 HTH5.out 3 (by decide)
      go_wp2
      refine bodyPost_ret (Qr rfl _ rfl HL9.out) rfl ?_;rw[HV.out];exact⟨rfl,HB9.out⟩
   |false =>
    go_wp2_with fail
    refine(HE3 _ HB5.out).out.mono ?_;rintro e wx ⟨rfl,rfl⟩;cases e3 with
    |true =>
     have HV:Hid (Q20 (Q1e l k) k=.agg #[.int .i64 2,.int .i64 k,.int .i64 ((k:Int)+2+(d:Int)),.bool true]):=by rw[Hid,HREF.out];simp[Q20]
     have HL9:=hid (Qv (P:=prog) (T:=126) w5 w.heap.size [.int .i64 2,.int .i64 k,.int .i64 ((k:Int)+2+(d:Int)),.bool true] HTH5.out (by kernel_rfl) underlying126 rfl)
     have HB9:=hid (Qe HB5.out w.heap.size (le_refl _) [.int .i64 2,.int .i64 k,.int .i64 ((k:Int)+2+(d:Int)),.bool true] 0);obtain⟨⟨z0,hz0⟩,hf0⟩:=Q5 HTH5.out 0 (by decide)
     obtain⟨⟨z1,hz1⟩,hf1⟩:=Q5 HTH5.out 1 (by decide)
     obtain⟨⟨z2,hz2⟩,hf2⟩:=Q5 HTH5.out 2 (by decide)
     obtain⟨⟨z3,hz3⟩,hf3⟩:=Q5 HTH5.out 3 (by decide)
     go_wp2
     refine bodyPost_ret (Qr rfl _ rfl HL9.out) rfl ?_;rw[HV.out];exact⟨rfl,HB9.out⟩
    |false =>
     have HV:Hid (Q20 (Q1e l k) k=.agg #[.int .i64 11,.int .i64 k,.int .i64 ((k:Int)+1),.bool false]):=by rw[Hid,HREF.out];simp[Q20]
     have HL9:=hid (Qv (P:=prog) (T:=126) w5 w.heap.size [.int .i64 11,.int .i64 k,.int .i64 ((k:Int)+1),.bool false] HTH5.out (by kernel_rfl) underlying126 rfl)
     have HB9:=hid (Qe HB5.out w.heap.size (le_refl _) [.int .i64 11,.int .i64 k,.int .i64 ((k:Int)+1),.bool false] 0);obtain⟨⟨z0,hz0⟩,hf0⟩:=Q5 HTH5.out 0 (by decide)
     obtain⟨⟨z1,hz1⟩,hf1⟩:=Q5 HTH5.out 1 (by decide)
     obtain⟨⟨z2,hz2⟩,hf2⟩:=Q5 HTH5.out 2 (by decide)
     obtain⟨⟨z3,hz3⟩,hf3⟩:=Q5 HTH5.out 3 (by decide)
     go_wp2
     refine bodyPost_ret (Qr rfl _ rfl HL9.out) rfl ?_;rw[HV.out];exact⟨rfl,HB9.out⟩
 |false =>
  go_wp2_with fail
  refine(HS2 _ HB4.out).out.mono ?_;rintro e w5 ⟨rfl,hb5⟩;have HB5:=hid (HB4.out.trans (hb5.mono HB4.out.size));have HTH5:=hid (QJ HTH4.out hb5 HLT.out);clear hb5;cases s2 with
  |true =>
   go_wp2_with fail
   refine(HE2 _ HB5.out).out.mono ?_;rintro e wx ⟨rfl,rfl⟩;cases e2 with
   |true =>
    have HV:Hid (Q20 (Q1e l k) k=.agg #[.int .i64 3,.int .i64 k,.int .i64 ((k:Int)+3+(nd:Int)),.bool true]):=by rw[Hid,HREF.out];simp[Q20]
    have HL9:=hid (Qv (P:=prog) (T:=126) w5 w.heap.size [.int .i64 3,.int .i64 k,.int .i64 ((k:Int)+3+(nd:Int)),.bool true] HTH5.out (by kernel_rfl) underlying126 rfl)
    have HB9:=hid (Qe HB5.out w.heap.size (le_refl _) [.int .i64 3,.int .i64 k,.int .i64 ((k:Int)+3+(nd:Int)),.bool true] 0);obtain⟨⟨z0,hz0⟩,hf0⟩:=Q5 HTH5.out 0 (by decide)
    obtain⟨⟨z1,hz1⟩,hf1⟩:=Q5 HTH5.out 1 (by decide)
    obtain⟨⟨z2,hz2⟩,hf2⟩:=Q5 HTH5.out 2 (by decide)
    obtain⟨⟨z3,hz3⟩,hf3⟩:=Q5 HTH5.out 3 (by decide)
    go_wp2
    refine bodyPost_ret (Qr rfl _ rfl HL9.out) rfl ?_;rw[HV.out];exact⟨rfl,HB9.out⟩
   |false =>
    go_wp2_with fail
    refine(HE3 _ HB5.out).out.mono ?_;rintro e wx ⟨rfl,rfl⟩;cases e3 with
    |true =>
     have HV:Hid (Q20 (Q1e l k) k=.agg #[.int .i64 2,.int .i64 k,.int .i64 ((k:Int)+2+(d:Int)),.bool true]):=by rw[Hid,HREF.out];simp[Q20]
     have HL9:=hid (Qv (P:=prog) (T:=126) w5 w.heap.size [.int .i64 2,.int .i64 k,.int .i64 ((k:Int)+2+(d:Int)),.bool true] HTH5.out (by kernel_rfl) underlying126 rfl)
     have HB9:=hid (Qe HB5.out w.heap.size (le_refl _) [.int .i64 2,.int .i64 k,.int .i64 ((k:Int)+2+(d:Int)),.bool true] 0);obtain⟨⟨z0,hz0⟩,hf0⟩:=Q5 HTH5.out 0 (by decide)
     obtain⟨⟨z1,hz1⟩,hf1⟩:=Q5 HTH5.out 1 (by decide)
     obtain⟨⟨z2,hz2⟩,hf2⟩:=Q5 HTH5.out 2 (by decide)
     obtain⟨⟨z3,hz3⟩,hf3⟩:=Q5 HTH5.out 3 (by decide)
     go_wp2
     refine bodyPost_ret (Qr rfl _ rfl HL9.out) rfl ?_;rw[HV.out];exact⟨rfl,HB9.out⟩
    |false =>
     have HV:Hid (Q20 (Q1e l k) k=.agg #[.int .i64 11,.int .i64 k,.int .i64 ((k:Int)+1),.bool false]):=by rw[Hid,HREF.out];simp[Q20]
     have HL9:=hid (Qv (P:=prog) (T:=126) w5 w.heap.size [.int .i64 11,.int .i64 k,.int .i64 ((k:Int)+1),.bool false] HTH5.out (by kernel_rfl) underlying126 rfl)
     have HB9:=hid (Qe HB5.out w.heap.size (le_refl _) [.int .i64 11,.int .i64 k,.int .i64 ((k:Int)+1),.bool false] 0);obtain⟨⟨z0,hz0⟩,hf0⟩:=Q5 HTH5.out 0 (by decide)
     obtain⟨⟨z1,hz1⟩,hf1⟩:=Q5 HTH5.out 1 (by decide)
     obtain⟨⟨z2,hz2⟩,hf2⟩:=Q5 HTH5.out 2 (by decide)
     obtain⟨⟨z3,hz3⟩,hf3⟩:=Q5 HTH5.out 3 (by decide)
     go_wp2
     refine bodyPost_ret (Qr rfl _ rfl HL9.out) rfl ?_;rw[HV.out];exact⟨rfl,HB9.out⟩
  |false =>
   go_wp2_with fail
   refine(HE3 _ HB5.out).out.mono ?_;rintro e wx ⟨rfl,rfl⟩;cases e3 with
   |true =>
    have HV:Hid (Q20 (Q1e l k) k=.agg #[.int .i64 2,.int .i64 k,.int .i64 ((k:Int)+2+(d:Int)),.bool true]):=by rw[Hid,HREF.out];simp[Q20]
    have HL9:=hid (Qv (P:=prog) (T:=126) w5 w.heap.size [.int .i64 2,.int .i64 k,.int .i64 ((k:Int)+2+(d:Int)),.bool true] HTH5.out (by kernel_rfl) underlying126 rfl)
    have HB9:=hid (Qe HB5.out w.heap.size (le_refl _) [.int .i64 2,.int .i64 k,.int .i64 ((k:Int)+2+(d:Int)),.bool true] 0);obtain⟨⟨z0,hz0⟩,hf0⟩:=Q5 HTH5.out 0 (by decide)
    obtain⟨⟨z1,hz1⟩,hf1⟩:=Q5 HTH5.out 1 (by decide)
    obtain⟨⟨z2,hz2⟩,hf2⟩:=Q5 HTH5.out 2 (by decide)
    obtain⟨⟨z3,hz3⟩,hf3⟩:=Q5 HTH5.out 3 (by decide)
    go_wp2
    refine bodyPost_ret (Qr rfl _ rfl HL9.out) rfl ?_;rw[HV.out];exact⟨rfl,HB9.out⟩
   |false =>
    have HV:Hid (Q20 (Q1e l k) k=.agg #[.int .i64 11,.int .i64 k,.int .i64 ((k:Int)+1),.bool false]):=by rw[Hid,HREF.out];simp[Q20]
    have HL9:=hid (Qv (P:=prog) (T:=126) w5 w.heap.size [.int .i64 11,.int .i64 k,.int .i64 ((k:Int)+1),.bool false] HTH5.out (by kernel_rfl) underlying126 rfl)
    have HB9:=hid (Qe HB5.out w.heap.size (le_refl _) [.int .i64 11,.int .i64 k,.int .i64 ((k:Int)+1),.bool false] 0);obtain⟨⟨z0,hz0⟩,hf0⟩:=Q5 HTH5.out 0 (by decide)
    obtain⟨⟨z1,hz1⟩,hf1⟩:=Q5 HTH5.out 1 (by decide)
    obtain⟨⟨z2,hz2⟩,hf2⟩:=Q5 HTH5.out 2 (by decide)
    obtain⟨⟨z3,hz3⟩,hf3⟩:=Q5 HTH5.out 3 (by decide)
    go_wp2
    refine bodyPost_ret (Qr rfl _ rfl HL9.out) rfl ?_;rw[HV.out];exact⟨rfl,HB9.out⟩
def Q2Q(r:Int):Bool:=r == 34||r == 39
def Q2p(l:List Int)(q:Int)(k:Nat):Nat×Bool:=if h:k<l.length then(if l[k]=q then(k+1,true)else Q2p l q (k+1))else(l.length,false)
termination_by l.length-k
theorem Q6q(l:List Int)(q:Int)(k:Nat)(h:k<l.length)(hq:l[k]=q):Q2p l q k=(k+1,true):=by rw[Q2p,dif_pos h,if_pos hq]
theorem Q5J(l:List Int)(q:Int)(k:Nat)(h:k<l.length)(hq:l[k]≠q):Q2p l q k=Q2p l q (k+1):=by rw[Q2p,dif_pos h,if_neg hq]
theorem Q3O(l:List Int)(q:Int)(k:Nat)(h:¬k<l.length):Q2p l q k=(l.length,false):=by rw[Q2p,dif_neg h]
theorem Qg6(l:List Int)(q:Int):∀(n k:Nat),l.length-k<=n->k<=l.length->k<=(Q2p l q k).1/\(Q2p l q k).1<=l.length/\(k<l.length->k<(Q2p l q k).1\/(Q2p l q k).1=l.length):=by
 intro n;induction n with
 |zero =>
  intro k h hk;rw[Q3O l q k (by omega)]
  simp only;omega
 |succ n ih =>
  intro k h hk;by_cases hlt:k<l.length
  ·by_cases hq:l[k]=q
   ·rw[Q6q l q k hlt hq];simp only;omega
   ·rw[Q5J l q k hlt hq]
    have:=ih (k+1) (by omega) (by omega)
    omega
  ·rw[Q3O l q k hlt];simp only;omega
def Q16(l:List Int)(k:Nat):Nat×Bool:=Q2p l (l.getD k 0) (k+1)
theorem Q2D(l:List Int)(k:Nat)(h:k<l.length):k<(Q16 l k).1/\(Q16 l k).1<=l.length:=by
 have:=Qg6 l (l.getD k 0) l.length (k+1) (by omega) (by omega)
 unfold Q16;omega
def QH(l:List Int)(stops:Bool)(k:Nat):Nat×Bool :=
 if h:k<l.length then
  (if Q2Q l[k]then QH l stops (Q16 l k).1 else if l[k]=62 then(k,true)else if l[k]=60/\stops=true then(k,false)else QH l stops (k+1))
 else(l.length,false)
termination_by l.length-k
decreasing_by
 ·have:=Q2D l k (by assumption);omega
 ·omega
theorem Q2f(l:List Int)(s:Bool)(k:Nat)(h:¬k<l.length):QH l s k=(l.length,false):=by rw[QH,dif_neg h]
theorem Q4V(l:List Int)(s:Bool)(k:Nat)(h:k<l.length)(hq:Q2Q l[k]=true):QH l s k=QH l s (Q16 l k).1:=by
 conv=>lhs;rw[QH]
 rw[dif_pos h,if_pos hq]
theorem Q5H(l:List Int)(s:Bool)(k:Nat)(h:k<l.length)(hq:l[k]=62):QH l s k=(k,true):=by
 rw[QH,dif_pos h,if_neg (by rw[hq];decide),if_pos hq]
theorem Q71(l:List Int)(k:Nat)(h:k<l.length)(hq:l[k]=60):QH l true k=(k,false):=by
 rw[QH,dif_pos h,if_neg (by rw[hq];decide),if_neg (by rw[hq];decide),if_pos ⟨hq,rfl⟩]
theorem Q4e(l:List Int)(s:Bool)(k:Nat)(h:k<l.length)(h1:Q2Q l[k]=false)(h2:l[k]≠62)(h3:¬(l[k]=60/\s=true)):QH l s k=QH l s (k+1):=by
 conv=>lhs;rw[QH]
 rw[dif_pos h,if_neg (by simp[h1]),if_neg h2,if_neg h3]
theorem Q2y(l:List Int)(s:Bool):∀(n k:Nat),l.length-k<=n->k<=l.length->k<=(QH l s k).1/\(QH l s k).1<=l.length/\((QH l s k).2=true->(QH l s k).1<l.length):=by
 intro n;induction n with
 |zero =>
  intro k h hk;rw[Q2f l s k (by omega)]
  simp;omega
 |succ n ih =>
  intro k h hk;by_cases hlt:k<l.length
  ·cases hq:Q2Q l[k]with
   |true =>
    have:=Q2D l k hlt
    have:=ih (Q16 l k).1 (by omega) (by omega)
    rw[Q4V l s k hlt hq];exact⟨by omega,by omega,this.2.2⟩
   |false =>
    by_cases h2:l[k]=62
    ·rw[Q5H l s k hlt h2];simp;omega
    ·by_cases h3:l[k]=60/\s=true
     ·obtain⟨h3,rfl⟩:=h3
      rw[Q71 l k hlt h3];simp;omega
     ·have:=ih (k+1) (by omega) (by omega)
      rw[Q4e l s k hlt hq h2 h3];exact⟨by omega,by omega,this.2.2⟩
  ·rw[Q2f l s k hlt]
   simp;omega
theorem QaI(r:Int)(w:World):Calls prog 163 #[.int .i32 r] w fun e w'=>e=.returned (.bool (Q2Q r))/\w=w':=by
 by_cases h:r=34
 ·subst h
  go_enter func163,ntmps163
  go_wp2
  go_ret
  exact⟨rfl,rfl⟩
 ·have hb:(r == 34)=false:=by simpa using h
  have HE:Hid (Q2Q r=(r == 39)):=by rw[Hid,Q2Q,hb,Bool.false_or]
  clear h;go_enter func163,ntmps163
  go_wp2
  go_ret
  exact⟨Q18 HE.out.symm,rfl⟩
theorem Qbl(S:Nat->Prop)(A:Option Addr)(n c:Nat)(l:List Int)(k:Nat)(w:World)(hr:Rd w S 1 A n c (rc l))(hk:k<l.length)(hl9:l.length<=1000000000) :
  Calls prog 164 #[.slice A n c,.int .i64 k] w fun e w'=>e=.returned (.tuple #[.int .i64 (Q16 l k).1,.bool (Q16 l k).2])/\Below w.heap.size w w':=by
 obtain rfl:=hr.rlen;have hle:=hr.le;have hmx:c<=9223372036854775807:=hr.max;have HR:=hid hr;have hki:(k:Int)<(l.length:Int):=by omega
 have HT:Hid (Q16 l k=Q2p l l[k] (k+1)):=by rw[Hid,Q16,Q8m hk]
 have HQ:=fun W (h:Below w.heap.size w W)=>hid ((HR.out.below h).rune hk)
 clear hr;generalize Q16 l k=t at HT ⊢;generalize l[k]=q at HT HQ;go_enter func164,ntmps164
 go_wp2
 go_loopw [6] (fun i wr=>∃j:Nat,k+1<=j/\j<=l.length/\i=.int .i64 j/\Hid (t=Q2p l q j)/\Hid (Below w.heap.size w wr)) (fun i _=>l.length-(RowKit.intOf i).toNat)
 case atStart=>exact⟨k+1,le_refl _,by omega,by go_num,HT.out,Below.refl _ _⟩
 case round =>
  obtain⟨j,hj1,hj2,rfl,HJ,HB⟩:=hrel;by_cases hlt:j<l.length
  ·have hji:(j:Int)<(l.length:Int):=by omega
   obtain⟨b,o,rfl,hc0⟩:=(HR.out.below HB.out).rune hlt;obtain⟨b',o',hA,hc1⟩:=(HQ _ HB.out).out;injection hA with hA
   injection hA with e1 e2
   subst e1 e2;have HH:=hid (Q6q l q j hlt);have HM:=hid (Q5J l q j hlt);generalize l[j]=r at hc0 HH HM;by_cases hq:r=q
   ·have HE:=hid (HJ.out.trans (HH.out hq))
    have hb:(r == q)=true:=by simpa using hq
    clear HH HM HJ hq;go_wp2
    go_quiet (fail)
    go_wp2
    go_ret2
    rw[HE.out];exact⟨rfl,Q1x HB.out _⟩
   ·have HE:=hid (HJ.out.trans (HM.out hq))
    have hb:(r == q)=false:=by simpa using hq
    clear HH HM HJ hq;go_wp2
    go_quiet (fail)
    go_wp2
    go_roundw
    case rel=>exact⟨j+1,by omega,by omega,by go_num,HE.out,Q1x HB.out _⟩
    case measure=>simp[RowKit.intOf];omega
  ·have hji:¬(j:Int)<(l.length:Int):=by omega
   have HE:=hid (HJ.out.trans (Q3O l q j hlt));clear HJ;go_wp2
   go_ret2
   rw[HE.out];exact⟨rfl,HB.out⟩
theorem Qcr(S:Nat->Prop)(A:Option Addr)(n c:Nat)(l:List Int)(k:Nat)(s:Bool)(w:World)(hr:Rd w S 1 A n c (rc l))(hk:k<=l.length)(hl9:l.length<=1000000000) :
  Calls prog 166 #[.slice A n c,.int .i64 k,.bool s] w fun e w'=>e=.returned (.tuple #[.int .i64 (QH l s k).1,.bool (QH l s k).2])/\Below w.heap.size w w':=by
 obtain rfl:=hr.rlen;have hle:=hr.le;have hmx:c<=9223372036854775807:=hr.max;have HR:=hid hr;clear hr;obtain⟨t,ht⟩:∃t,t=QH l s k:=⟨_,rfl⟩;rw[<-ht];have HT:=hid ht;clear ht;go_enter func166,ntmps166
 go_wp2
 go_loopw [1] (fun i wr=>∃j:Nat,j<=l.length/\i=.int .i64 j/\Hid (t=QH l s j)/\Hid (Below w.heap.size w wr)) (fun i _=>l.length-(RowKit.intOf i).toNat)
 case atStart=>exact⟨k,hk,rfl,HT.out,Below.refl _ _⟩
 case round =>
  obtain⟨j,hj,rfl,HJ,HB⟩:=hrel;by_cases hlt:j<l.length
  ·have hji:(j:Int)<(l.length:Int):=by omega
   obtain⟨b,o,rfl,hc0⟩:=(HR.out.below HB.out).rune hlt;have HQT:=hid (QaI l[j]);have HQD:=hid (Qbl S _ l.length c l j _ (HR.out.below HB.out) hlt hl9);obtain⟨hg1,hg2⟩:=Q2D l j hlt;have H1:=hid (Q4V l s j hlt);have H2:=hid (Q5H l s j hlt);have H4:=hid (Q4e l s j hlt);have H3:=hid (show s=true->l[j]=60->QH l s j=(j,false) from fun h h2=>by subst h;exact Q71 l j hlt h2)
   generalize l[j]=r at hc0 HQT H1 H2 H3 H4;cases hq:Q2Q r with
   |true =>
    have HE:=hid (HJ.out.trans (H1.out hq));have HQT2:=fun W=>hid (HQT.out W)
    rw[hq]at HQT2;clear H1 H2 H3 H4 HJ hq HQT;generalize (Q16 l j).1=nx at HE HQD hg1 hg2;generalize (Q16 l j).2=nb at HQD;go_wp2_with fail
    refine(HQT2 _).out.mono ?_;rintro e wx ⟨rfl,rfl⟩;go_wp2_with fail
    refine HQD.out.mono ?_;rintro e w2 ⟨rfl,hb2⟩;have HB2:=hid (HB.out.trans (hb2.mono HB.out.size));clear hb2;go_wp2
    go_roundw
    case rel=>exact⟨nx,by omega,rfl,HE.out,HB2.out⟩
    case measure=>simp[RowKit.intOf];omega
   |false =>
    have HQT2:=fun W=>hid (HQT.out W)
    rw[hq]at HQT2;clear HQD hg1 hg2 HQT;by_cases h62:r=62
    ·have HE:=hid (HJ.out.trans (H2.out h62))
     subst h62;clear H1 H2 H3 H4 HJ hq;go_wp2_with fail
     refine(HQT2 _).out.mono ?_;rintro e wx ⟨rfl,rfl⟩;go_wp2
     go_ret2
     rw[HE.out];exact⟨rfl,HB.out⟩
    ·have h62b:(r == 62)=false:=by simpa using h62
     by_cases h60:r=60
     ·subst h60
      cases s with
      |true =>
       have HE:=hid (HJ.out.trans (H3.out rfl rfl));clear H1 H2 H3 H4 HJ hq h62;go_wp2_with fail
       refine(HQT2 _).out.mono ?_;rintro e wx ⟨rfl,rfl⟩;go_wp2
       go_ret2
       rw[HE.out];exact⟨rfl,HB.out⟩
      |false =>
       have HE:=hid (HJ.out.trans (H4.out hq h62 (by simp)))
       clear H1 H2 H3 H4 HJ hq h62;go_wp2_with fail
       refine(HQT2 _).out.mono ?_;rintro e wx ⟨rfl,rfl⟩;go_wp2
       go_roundw
       case rel=>exact⟨j+1,by omega,by go_num,HE.out,HB.out⟩
       case measure=>simp[RowKit.intOf];omega
     ·have h60b:(r == 60)=false:=by simpa using h60
      have HE:=hid (HJ.out.trans (H4.out hq h62 (fun h=>h60 h.1)))
      clear H1 H2 H3 H4 HJ hq h62 h60;go_wp2_with fail
      refine(HQT2 _).out.mono ?_;rintro e wx ⟨rfl,rfl⟩;go_wp2
      go_roundw
      case rel=>exact⟨j+1,by omega,by go_num,HE.out,HB.out⟩
      case measure=>simp[RowKit.intOf];omega
  ·have hji:¬(j:Int)<(l.length:Int):=by omega
   have HE:=hid (HJ.out.trans (Q2f l s j hlt));clear HJ;go_wp2
   go_ret2
   rw[HE.out];exact⟨rfl,HB.out⟩
def QW(l:List Int)(kd k skip:Nat)(bs:List UInt8):Nat×Nat×Bool:=match Q3Y l (min (k+skip) l.length) l.length bs with
 |none=>(kd,l.length,false)
 |some j=>(kd,j+bs.length,true)
def Q2m(l:List Int)(k:Nat):Nat×Bool:=if h:k<l.length then(if l[k]=62 then(k+1,true)else if l[k]=60 then(k,false)else Q2m l (k+1))else(l.length,false)
termination_by l.length-k
def Q3l(l:List Int)(k:Nat):Nat×Nat×Bool:=(10,(Q2m l (k+2)).1,(Q2m l (k+2)).2)
def Q1m(l:List Int)(k:Nat):Nat×Nat×Bool :=
 if(QH l true (k+1)).2=false then(8,(QH l true (k+1)).1,false)
 else if l[(QH l true (k+1)).1-1]?=some 47 then(9,(QH l true (k+1)).1+1,true)else(8,(QH l true (k+1)).1+1,true)
theorem QeU(l:List Int)(k:Nat)(h:k<l.length)(hq:l[k]=62):Q2m l k=(k+1,true):=by rw[Q2m,dif_pos h,if_pos hq]
theorem QdH(l:List Int)(k:Nat)(h:k<l.length)(hq:l[k]=60):Q2m l k=(k,false):=by rw[Q2m,dif_pos h,if_neg (by rw[hq];decide),if_pos hq]
theorem QaA(l:List Int)(k:Nat)(h:k<l.length)(h1:l[k]≠62)(h2:l[k]≠60):Q2m l k=Q2m l (k+1):=by rw[Q2m,dif_pos h,if_neg h1,if_neg h2]
theorem Q94(l:List Int)(k:Nat)(h:¬k<l.length):Q2m l k=(l.length,false):=by rw[Q2m,dif_neg h]
theorem Q6f(S:Nat->Prop)(A:Option Addr)(n c:Nat)(l:List Int)(kd k skip:Nat)(s:ByteArray)(w:World)(hr:Rd w S 1 A n c (rc l))(hk:k<=l.length)(hsk:skip<=1000)(hl9:l.length<=1000000000)(hs9:s.size<=1000) :
  Calls prog 148 #[.slice A n c,.int .i64 kd,.int .i64 k,.int .i64 skip,.string s] w fun e w'=>e=.returned (Q20 (QW l kd k skip s.data.toList) k)/\Below w.heap.size w w':=by
 obtain rfl:=hr.rlen;have hle:=hr.le;have hmx:c<=9223372036854775807:=hr.max;have HR:=hid hr;clear hr
 have hm:∀ts t W,(Builtin.min_ ts t #[.int .i64 ((k:Int)+(skip:Int)),.int .i64 (l.length:Int)]).run prog W=.ok (.int .i64 (min (k+skip) l.length:Nat)) W:=fun ts t W=>by
  rw[run_min_int2];congr 2
  split<;>omega
 have HF:=fun W (h:Below w.heap.size w W)=>hid (QjF S A l.length c l (min (k+skip) l.length) l.length s W (HR.out.below h) (by omega) (le_refl _) hl9 (by omega))
 have HT:Hid (QW l kd k skip s.data.toList=match Q3Y l (min (k+skip) l.length) l.length s.data.toList with
  |none=>(kd,l.length,false)
  |some j=>(kd,j+s.data.toList.length,true)):=rfl
 have hfl:∀j,Q3Y l (min (k+skip) l.length) l.length s.data.toList=some j->j<=l.length:=fun j h=>by
  rw[Q3Y,List.find?_range'_eq_some]at h;have:=mem_range'_1.1 h.2.1
  omega
 have HSL:=hid (show s.data.toList.length=s.size by simp)
 generalize QW l kd k skip s.data.toList=t at HT ⊢;generalize Q3Y l (min (k+skip) l.length) l.length s.data.toList=q at HF HT hfl;generalize min (k+skip) l.length=m2 at hm HF;cases q with
 |none =>
  have HE:Hid (t=(kd,l.length,false)):=HT.out;clear HT hfl;go_enter func148,ntmps148
  go_wp2_with fail
  have HTH0:=hid (Q2K w #[.int .i64 0,.int .i64 0,.int .i64 0,.bool false] 126);have HB0:=hid (ba w (.cells #[.int .i64 0,.int .i64 0,.int .i64 0,.bool false] 126));have HSZ:Hid (w.heap.size<(w.alloc (.cells #[.int .i64 0,.int .i64 0,.int .i64 0,.bool false] 126)).heap.size):=by simp[Hid]
  generalize w.alloc (.cells #[.int .i64 0,.int .i64 0,.int .i64 0,.bool false] 126)=W0 at HTH0 HB0 HSZ;refine(HF _ HB0.out).out.mono ?_;rintro e w1 ⟨rfl,hb1⟩;have HB1:=hid (HB0.out.trans (hb1.mono HB0.out.size));have HTH1:Hid (w1.there w.heap.size 0 4):=QJ HTH0.out hb1 HSZ.out;clear hb1 HTH0 HSZ;have HL9:=hid (Qv (P:=prog) (T:=126) w1 w.heap.size [.int .i64 kd,.int .i64 k,.int .i64 (l.length),.bool false] HTH1.out (by kernel_rfl) underlying126 rfl)
  have HB9:=hid (Qe HB1.out w.heap.size (le_refl _) [.int .i64 kd,.int .i64 k,.int .i64 (l.length),.bool false] 0);obtain⟨⟨z0,hz0⟩,hf0⟩:=Q5 HTH1.out 0 (by decide)
  obtain⟨⟨z1,hz1⟩,hf1⟩:=Q5 HTH1.out 1 (by decide)
  obtain⟨⟨z2,hz2⟩,hf2⟩:=Q5 HTH1.out 2 (by decide)
  obtain⟨⟨z3,hz3⟩,hf3⟩:=Q5 HTH1.out 3 (by decide)
  go_wp2
  refine bodyPost_ret (Qr rfl _ rfl HL9.out) rfl ?_;rw[HE.out];exact⟨by simp[Q20],HB9.out⟩
 |some j =>
  have HE:Hid (t=(kd,j+s.size,true)):=by rw[Hid,<-HSL.out];exact HT.out
  have hfl:=hfl j rfl;clear HT;go_enter func148,ntmps148
  go_wp2_with fail
  have HTH0:=hid (Q2K w #[.int .i64 0,.int .i64 0,.int .i64 0,.bool false] 126);have HB0:=hid (ba w (.cells #[.int .i64 0,.int .i64 0,.int .i64 0,.bool false] 126));have HSZ:Hid (w.heap.size<(w.alloc (.cells #[.int .i64 0,.int .i64 0,.int .i64 0,.bool false] 126)).heap.size):=by simp[Hid]
  generalize w.alloc (.cells #[.int .i64 0,.int .i64 0,.int .i64 0,.bool false] 126)=W0 at HTH0 HB0 HSZ;refine(HF _ HB0.out).out.mono ?_;rintro e w1 ⟨rfl,hb1⟩;have HB1:=hid (HB0.out.trans (hb1.mono HB0.out.size));have HTH1:Hid (w1.there w.heap.size 0 4):=QJ HTH0.out hb1 HSZ.out;clear hb1 HTH0 HSZ;have HL9:=hid (Qv (P:=prog) (T:=126) w1 w.heap.size [.int .i64 kd,.int .i64 k,.int .i64 ((j:Int)+(s.size:Int)),.bool true] HTH1.out (by kernel_rfl) underlying126 rfl)
  have HB9:=hid (Qe HB1.out w.heap.size (le_refl _) [.int .i64 kd,.int .i64 k,.int .i64 ((j:Int)+(s.size:Int)),.bool true] 0);obtain⟨⟨z0,hz0⟩,hf0⟩:=Q5 HTH1.out 0 (by decide)
  obtain⟨⟨z1,hz1⟩,hf1⟩:=Q5 HTH1.out 1 (by decide)
  obtain⟨⟨z2,hz2⟩,hf2⟩:=Q5 HTH1.out 2 (by decide)
  obtain⟨⟨z3,hz3⟩,hf3⟩:=Q5 HTH1.out 3 (by decide)
  go_wp2
  refine bodyPost_ret (Qr rfl _ rfl HL9.out) rfl ?_;rw[HE.out];exact⟨by simp[Q20],HB9.out⟩
theorem Qlw(S:Nat->Prop)(A:Option Addr)(n c:Nat)(l:List Int)(k:Nat)(w:World)(hr:Rd w S 1 A n c (rc l))(hk:k+2<=l.length)(hl9:l.length<=1000000000) :
  Calls prog 150 #[.slice A n c,.int .i64 k] w fun e w'=>e=.returned (Q20 (Q3l l k) k)/\Below w.heap.size w w':=by
 obtain rfl:=hr.rlen;have hle:=hr.le;have hmx:c<=9223372036854775807:=hr.max;have HR:=hid hr;clear hr;obtain⟨t,ht⟩:∃t,t=Q2m l (k+2):=⟨_,rfl⟩;have HT:=hid ht;have HTT:Hid (Q3l l k=(10,t.1,t.2)):=by rw[Hid,ht];rfl
 clear ht;go_enter func150,ntmps150
 go_wp2
 have HTH0:=hid (Q2K w #[.int .i64 0,.int .i64 0,.int .i64 0,.bool false] 126);have HB0:=hid (ba w (.cells #[.int .i64 0,.int .i64 0,.int .i64 0,.bool false] 126));have HSZ:Hid (w.heap.size<(w.alloc (.cells #[.int .i64 0,.int .i64 0,.int .i64 0,.bool false] 126)).heap.size):=by simp[Hid]
 generalize w.alloc (.cells #[.int .i64 0,.int .i64 0,.int .i64 0,.bool false] 126)=W0 at HTH0 HB0 HSZ;have HR0:=hid (HR.out.below HB0.out);have HTH0:Hid (W0.there w.heap.size 0 4):=HTH0.out;go_loopw [5] (fun i wr=>wr=W0/\∃j:Nat,k+2<=j/\j<=l.length/\i=.int .i64 j/\Hid (t=Q2m l j)) (fun i _=>l.length-(RowKit.intOf i).toNat)
 case atStart=>exact⟨rfl,k+2,le_refl _,by omega,by go_num,HT.out⟩
 case round =>
  obtain⟨rfl,j,hj1,hj2,rfl,HJ⟩:=hrel;by_cases hlt:j<l.length
  ·have hji:(j:Int)<(l.length:Int):=by omega
   obtain⟨b,o,rfl,hc0⟩:=HR0.out.rune hlt;have H1:=hid (QeU l j hlt);have H2:=hid (QdH l j hlt);have H3:=hid (QaA l j hlt);generalize l[j]=r at hc0 H1 H2 H3;by_cases h62:r=62
   ·have HE:Hid (Q3l l k=(10,j+1,true)):=by rw[Hid,HTT.out,HJ.out.trans (H1.out h62)]
    subst h62;clear H1 H2 H3 HJ HTT;have HL9:=hid (Qv (P:=prog) (T:=126) wr w.heap.size [.int .i64 10,.int .i64 k,.int .i64 ((j:Int)+1),.bool true] HTH0.out (by kernel_rfl) underlying126 rfl)
    have HB9:=hid (Qe HB0.out w.heap.size (le_refl _) [.int .i64 10,.int .i64 k,.int .i64 ((j:Int)+1),.bool true] 0);obtain⟨⟨z0,hz0⟩,hf0⟩:=Q5 HTH0.out 0 (by decide)
    obtain⟨⟨z1,hz1⟩,hf1⟩:=Q5 HTH0.out 1 (by decide)
    obtain⟨⟨z2,hz2⟩,hf2⟩:=Q5 HTH0.out 2 (by decide)
    obtain⟨⟨z3,hz3⟩,hf3⟩:=Q5 HTH0.out 3 (by decide)
    go_wp2
    refine bodyPost_ret (Qr rfl _ rfl HL9.out) rfl ?_;rw[HE.out];exact⟨by simp[Q20],HB9.out⟩
   ·have h62b:(r == 62)=false:=by simpa using h62
    by_cases h60:r=60
    ·have HE:Hid (Q3l l k=(10,j,false)):=by rw[Hid,HTT.out,HJ.out.trans (H2.out h60)]
     subst h60;clear H1 H2 H3 HJ HTT h62;have HL9:=hid (Qv (P:=prog) (T:=126) wr w.heap.size [.int .i64 10,.int .i64 k,.int .i64 (j),.bool false] HTH0.out (by kernel_rfl) underlying126 rfl)
     have HB9:=hid (Qe HB0.out w.heap.size (le_refl _) [.int .i64 10,.int .i64 k,.int .i64 (j),.bool false] 0);obtain⟨⟨z0,hz0⟩,hf0⟩:=Q5 HTH0.out 0 (by decide)
     obtain⟨⟨z1,hz1⟩,hf1⟩:=Q5 HTH0.out 1 (by decide)
     obtain⟨⟨z2,hz2⟩,hf2⟩:=Q5 HTH0.out 2 (by decide)
     obtain⟨⟨z3,hz3⟩,hf3⟩:=Q5 HTH0.out 3 (by decide)
     go_wp2
     refine bodyPost_ret (Qr rfl _ rfl HL9.out) rfl ?_;rw[HE.out];exact⟨by simp[Q20],HB9.out⟩
    ·have h60b:(r == 60)=false:=by simpa using h60
     have HN:=hid (HJ.out.trans (H3.out h62 h60));clear H1 H2 H3 HJ h62 h60;go_wp2
     go_roundw
     case rel=>exact⟨trivial,j+1,by omega,by omega,by go_num,HN.out⟩
     case measure=>simp[RowKit.intOf];omega
  ·have hji:¬(j:Int)<(l.length:Int):=by omega
   have HE:Hid (Q3l l k=(10,l.length,false)):=by rw[Hid,HTT.out,HJ.out.trans (Q94 l j hlt)]
   clear HJ HTT;have HL9:=hid (Qv (P:=prog) (T:=126) wr w.heap.size [.int .i64 10,.int .i64 k,.int .i64 (l.length),.bool false] HTH0.out (by kernel_rfl) underlying126 rfl)
   have HB9:=hid (Qe HB0.out w.heap.size (le_refl _) [.int .i64 10,.int .i64 k,.int .i64 (l.length),.bool false] 0);obtain⟨⟨z0,hz0⟩,hf0⟩:=Q5 HTH0.out 0 (by decide)
   obtain⟨⟨z1,hz1⟩,hf1⟩:=Q5 HTH0.out 1 (by decide)
   obtain⟨⟨z2,hz2⟩,hf2⟩:=Q5 HTH0.out 2 (by decide)
   obtain⟨⟨z3,hz3⟩,hf3⟩:=Q5 HTH0.out 3 (by decide)
   go_wp2
   refine bodyPost_ret (Qr rfl _ rfl HL9.out) rfl ?_;rw[HE.out];exact⟨by simp[Q20],HB9.out⟩
theorem Qgx(S:Nat->Prop)(A:Option Addr)(n c:Nat)(l:List Int)(k:Nat)(w:World)(hr:Rd w S 1 A n c (rc l))(hk:k<l.length)(hl9:l.length<=1000000000) :
  Calls prog 151 #[.slice A n c,.int .i64 k] w fun e w'=>e=.returned (Q20 (Q1m l k) k)/\Below w.heap.size w w':=by
 obtain rfl:=hr.rlen;have hle:=hr.le;have hmx:c<=9223372036854775807:=hr.max;have HR:=hid hr
 have HAN:∀W,Below w.heap.size w W->Hid (Calls prog 166 #[.slice A l.length c,.int .i64 ((k:Int)+1),.bool true] W fun e w'=>e=.returned (.tuple #[.int .i64 (QH l true (k+1)).1,.bool (QH l true (k+1)).2])/\Below W.heap.size W w'):=fun W h=>by
  rw[show((k:Int)+1)=((k+1:Nat):Int) by omega]
  exact Qcr S A l.length c l (k+1) true W (HR.out.below h) (by omega) hl9
 obtain⟨ha1,ha2,ha3⟩:=Q2y l true l.length (k+1) (by omega) (by omega)
 have HT:Hid (Q1m l k=if(QH l true (k+1)).2=false then(8,(QH l true (k+1)).1,false)
  else if l[(QH l true (k+1)).1-1]?=some 47 then(9,(QH l true (k+1)).1+1,true)else(8,(QH l true (k+1)).1+1,true)):=rfl
 clear hr;generalize (QH l true (k+1)).1=j at HAN HT ha1 ha2 ha3;generalize (QH l true (k+1)).2=b at HAN HT ha3;go_enter func151,ntmps151
 go_wp2_with fail
 have HTH0:=hid (Q2K w #[.int .i64 0,.int .i64 0,.int .i64 0,.bool false] 126);have HB0:=hid (ba w (.cells #[.int .i64 0,.int .i64 0,.int .i64 0,.bool false] 126));have HSZ:Hid (w.heap.size<(w.alloc (.cells #[.int .i64 0,.int .i64 0,.int .i64 0,.bool false] 126)).heap.size):=by simp[Hid]
 generalize w.alloc (.cells #[.int .i64 0,.int .i64 0,.int .i64 0,.bool false] 126)=W0 at HTH0 HB0 HSZ;refine(HAN _ HB0.out).out.mono ?_;rintro e w1 ⟨rfl,hb1⟩;have HB1:=hid (HB0.out.trans (hb1.mono HB0.out.size));have HTH1:Hid (w1.there w.heap.size 0 4):=QJ HTH0.out hb1 HSZ.out;clear hb1 HTH0 HSZ HB0 HAN;cases b with
 |false =>
  have HE:Hid (Q1m l k=(8,j,false)):=HT.out;clear HT ha3;have HL9:=hid (Qv (P:=prog) (T:=126) w1 w.heap.size [.int .i64 8,.int .i64 k,.int .i64 (j),.bool false] HTH1.out (by kernel_rfl) underlying126 rfl)
  have HB9:=hid (Qe HB1.out w.heap.size (le_refl _) [.int .i64 8,.int .i64 k,.int .i64 (j),.bool false] 0);obtain⟨⟨z0,hz0⟩,hf0⟩:=Q5 HTH1.out 0 (by decide)
  obtain⟨⟨z1,hz1⟩,hf1⟩:=Q5 HTH1.out 1 (by decide)
  obtain⟨⟨z2,hz2⟩,hf2⟩:=Q5 HTH1.out 2 (by decide)
  obtain⟨⟨z3,hz3⟩,hf3⟩:=Q5 HTH1.out 3 (by decide)
  go_wp2
  refine bodyPost_ret (Qr rfl _ rfl HL9.out) rfl ?_;rw[HE.out];exact⟨by simp[Q20],HB9.out⟩
 |true =>
  have ha3:=ha3 rfl;have hj1:j-1<l.length:=by omega
  have hj1i:(j:Int)-1<(l.length:Int):=by omega
  have hj0i:(0:Int)<=(j:Int)-1:=by omega
  obtain⟨b,o,rfl,hc0⟩:=(HR.out.below HB1.out).rune hj1
  have HT2:Hid (Q1m l k=if l[j-1]=47 then(9,j+1,true)else(8,j+1,true)):=by
   rw[Hid,HT.out,if_neg (by simp),getElem?_eq_getElem hj1]
   simp only[Option.some.injEq]
  generalize l[j-1]=r at hc0 HT2;clear HT;by_cases h47:r=47
  ·have HE:Hid (Q1m l k=(9,j+1,true)):=by rw[Hid,HT2.out,if_pos h47]
   subst h47;clear HT2;have HL9:=hid (Qv (P:=prog) (T:=126) w1 w.heap.size [.int .i64 9,.int .i64 k,.int .i64 ((j:Int)+1),.bool true] HTH1.out (by kernel_rfl) underlying126 rfl)
   have HB9:=hid (Qe HB1.out w.heap.size (le_refl _) [.int .i64 9,.int .i64 k,.int .i64 ((j:Int)+1),.bool true] 0);obtain⟨⟨z0,hz0⟩,hf0⟩:=Q5 HTH1.out 0 (by decide)
   obtain⟨⟨z1,hz1⟩,hf1⟩:=Q5 HTH1.out 1 (by decide)
   obtain⟨⟨z2,hz2⟩,hf2⟩:=Q5 HTH1.out 2 (by decide)
   obtain⟨⟨z3,hz3⟩,hf3⟩:=Q5 HTH1.out 3 (by decide)
   go_wp2
   refine bodyPost_ret (Qr rfl _ rfl HL9.out) rfl ?_;rw[HE.out];exact⟨by simp[Q20],HB9.out⟩
  ·have HE:Hid (Q1m l k=(8,j+1,true)):=by rw[Hid,HT2.out,if_neg h47]
   have h47b:(r == 47)=false:=by simpa using h47
   clear HT2 h47;have HL9:=hid (Qv (P:=prog) (T:=126) w1 w.heap.size [.int .i64 8,.int .i64 k,.int .i64 ((j:Int)+1),.bool true] HTH1.out (by kernel_rfl) underlying126 rfl)
   have HB9:=hid (Qe HB1.out w.heap.size (le_refl _) [.int .i64 8,.int .i64 k,.int .i64 ((j:Int)+1),.bool true] 0);obtain⟨⟨z0,hz0⟩,hf0⟩:=Q5 HTH1.out 0 (by decide)
   obtain⟨⟨z1,hz1⟩,hf1⟩:=Q5 HTH1.out 1 (by decide)
   obtain⟨⟨z2,hz2⟩,hf2⟩:=Q5 HTH1.out 2 (by decide)
   obtain⟨⟨z3,hz3⟩,hf3⟩:=Q5 HTH1.out 3 (by decide)
   go_wp2
   refine bodyPost_ret (Qr rfl _ rfl HL9.out) rfl ?_;rw[HE.out];exact⟨by simp[Q20],HB9.out⟩
