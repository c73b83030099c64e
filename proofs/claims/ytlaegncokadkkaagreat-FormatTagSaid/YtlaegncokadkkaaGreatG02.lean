/- Lemmas, conditions told -/
import Derived.Test.YtlaegncokadkkaaGreatG01
import Derived.Deep.RegionWith
import Derived.Lib.AppendStr
import Derived.Deep.MidRow
set_option maxRecDepth 99999
set_option maxHeartbeats 0
set_option linter.unusedSimpArgs false
set_option linter.unusedVariables false
namespace Go.Proofs.YtlaegncokadkkaaGreat
open List(takeWhile_cons length_cons getElem_mem getElem?_eq_getElem map_cons map_nil length_drop)
open Lib(hid)
open Nat(zero_le le_refl add_zero)
section
open Go.RowKit Tryz
def Q8(r:Int):Bool:=r == 32||r == 9||r == 10||r == 13
theorem Qgr(r:Int)(w:World):Calls prog 81 #[.int .i32 r] w fun e w'=>e=.returned (.bool (Q8 r))/\w=w':=by
 go_enter func81,ntmps81
 go_wp2
 all_goals (go_ret;exact⟨Qw (by simp[Q8, *]),rfl⟩)
theorem QmL(fn:Fn)(a b:Array Value)(w:World):(binOp .eql 162 (.func fn a b) .nilFunc).run prog w=.ok (.bool false) w:=by kernel_rfl
theorem QmY(fn:Fn)(a b:Array Value)(w:World):(binOp .neq 162 (.func fn a b) .nilFunc).run prog w=.ok (.bool true) w:=by kernel_rfl
def Q1R(p:Int->Bool)(l:List Int):Int->Nat:=fun from_=>if from_<0\/(l.length:Int)<from_ then 0 else((l.drop from_.toNat).takeWhile p).length
theorem QbZ{p:Int->Bool}(l:List Int)(k:Nat)(hk:k<l.length)(hp:p l[k]=false)(h:∀j,(hj:j<k)->p (l[j]'(by omega))=true):(l.takeWhile p).length=k:=by
 induction l generalizing k with
 |nil=>simp at hk
 |cons a t ih =>
  cases k with
  |zero=>simp at hp;simp[hp]
  |succ k =>
   have h0:p a=true:=h 0 (by omega)
   simp only[takeWhile_cons,h0,if_true,length_cons];rw[ih k (by simpa using hk) (by simpa using hp) (fun j hj=>by have:=h (j+1) (by omega);simpa using this)]
theorem Qay{p:Int->Bool}(l:List Int)(h:∀j,(hj:j<l.length)->p l[j]=true):(l.takeWhile p).length=l.length:=by
 induction l with
 |nil=>rfl
 |cons a t ih =>
  have h0:p a=true:=h 0 (by simp)
  simp only[takeWhile_cons,h0,if_true,length_cons];rw[ih (fun j hj=>by have:=h (j+1) (by simp;omega);simpa using this)]
theorem Q89(p:Int->Bool)(l:List Int):((l.takeWhile p).length == l.length)=l.all p:=by
 induction l with
 |nil=>rfl
 |cons a t ih =>
  cases h:p a with
  |true=>simpa[takeWhile_cons,h]using ih
  |false=>simp[h]
theorem Q6j(S:Nat->Prop)(A:Option Addr)(n c:Nat)(l:List Int)(from_:Int)(g:Nat)(caps:Array Value)(p:Int->Bool)(w:World)
  (eg:∀args w,(callFunc g args).run prog w=.ok (.enter g args) w)
  (hr:Rd w S 1 A n c (rc l)) (hp:Q3I prog g caps p w) :
  Calls prog 80 #[.slice A n c,.int .i64 from_,.func (.func g) #[] caps] w fun e w'=>e=.returned (.int .i64 (Q1R p l from_))/\Below w.heap.size w w':=by
 have hl:n=l.length:=by have:=hr.len;simpa using this.symm
 have hle:=hr.le;have hmx:=hr.max;have hmx:c<=9223372036854775807:=hmx;subst hl;have heq:=QmL (.func g) #[] caps;by_cases h1:from_<0
 ·go_enter func80,ntmps80
  go_wp2
  go_ret
  exact⟨QX (by simp[Q1R,h1]),Below.refl _ _⟩
 ·by_cases h2:(l.length:Int)<from_
  ·go_enter func80,ntmps80
   go_wp2
   go_ret
   exact⟨QX (by simp[Q1R,h2]),Below.refl _ _⟩
  ·obtain⟨k,rfl⟩:=Int.eq_ofNat_of_zero_le (show 0<=from_ by omega)
   have hk:k<=l.length:=by omega
   obtain⟨A',hr2,hsl⟩:=hr.cutL underlying24 (fun _=>by simp[go_sem]) hk (P:=prog)
   have hrest:(rc l).drop (k * 1)=rc (l.drop k):=by simp[rc]
   rw[hrest]at hr2;have HF:Hid (Q1R p l (k:Int)=((l.drop k).takeWhile p).length):=hid (by simp[Q1R,h1,h2])
   have HR:=hid hr2;have HP:=hid hp;have hd1:decide ((k:Int)<0)=false:=by simp
   have hd2:decide (l.length<k)=false:=by simp;omega
   clear h1 h2 hrest hr hr2 hp;go_enter func80,ntmps80
   go_wp2
   obtain⟨m,hm⟩:∃m,m=l.drop k:=⟨_,rfl⟩;have hml:m.length=l.length-k:=by rw[hm];simp
   rw[<-hm]at HR HF;clear hm;have HML:=hid hml;clear hml;go_loopw [25] (fun i wr=>∃j:Nat,j<=l.length-k/\i=.int .i64 j/\Hid (Below w.heap.size w wr)/\Hid (∀q,q<j->∀h:q<m.length,p m[q]=true)) (fun i _=>l.length-(intOf i).toNat)
   case atStart=>exact⟨0,zero_le _,rfl,Below.refl _ _,fun q hq=>absurd hq (by omega)⟩
   case round =>
    obtain⟨j,hj,rfl,HB,HQ⟩:=hrel;by_cases hlt:j<l.length-k
    ·obtain⟨b,o,u,rfl,_,hu,hc⟩:=(HR.out.below HB.out).one hlt
     obtain⟨hjm,rfl⟩:=Qcw hu;clear hu;have hcall:=HP.out wr m[j] HB.out;cases hq:p m[j]with
     |true =>
      rw[hq]at hcall;have HCALL:=hid hcall;have HQ1:=hid hq;clear hq hcall;generalize m[j]=r at hc HCALL;go_wp2_with (go_at_fn g;refine HCALL.out.mono ?_;rintro e w' ⟨rfl,hb'⟩);go_roundw
      case rel=>exact⟨j+1,by omega,by go_num,Q4T HB.out hb',fun q hq h=>by
       rcases Nat.lt_succ_iff_lt_or_eq.1 hq with h1|h1
       ·exact HQ.out q h1 h
       ·subst h1;exact HQ1.out⟩
      case measure=>simp[intOf];omega
     |false =>
      rw[hq]at hcall;have HCALL:=hid hcall;have HQ1:=hid hq;clear hq hcall;generalize m[j]=r at hc HCALL;go_wp2_with (go_at_fn g;refine HCALL.out.mono ?_;rintro e w' ⟨rfl,hb'⟩);go_ret
      refine⟨QX ?_,Q4T HB.out hb'⟩;rw[HF.out,QbZ m j hjm HQ1.out (fun q hq=>HQ.out q hq (by omega))]
    ·go_wp2
     go_ret
     refine⟨QX ?_,HB.out⟩;have hm:=HML.out;rw[HF.out,Qay m (fun q hq=>HQ.out q (by omega) hq)]
     omega
theorem QlP(S:Nat->Prop)(A:Option Addr)(n c:Nat)(l:List Int)(g:Nat)(caps:Array Value)(p:Int->Bool)(w:World)
  (eg:∀args w,(callFunc g args).run prog w=.ok (.enter g args) w)
  (hr:Rd w S 1 A n c (rc l)) (hp:Q3I prog g caps p w) :
  Calls prog 180 #[.slice A n c,.func (.func g) #[] caps] w fun e w'=>e=.returned (.bool (l.all p))/\Below w.heap.size w w':=by
 have hl:n=l.length:=by have:=hr.len;simpa using this.symm
 have hle:=hr.le;have hmx:c<=9223372036854775807:=hr.max;subst hl;have heq:=QmY (.func g) #[] caps;have HC:=hid (Q6j S A l.length c l 0 g caps p w eg hr hp);clear hr hp;go_enter func180,ntmps180
 go_wp2_with (go_at_call 80;refine HC.out.mono ?_;rintro e w' ⟨rfl,hb'⟩);go_ret
 refine⟨Qw ?_,hb'⟩;have h:=Q89 p l
 have e0:Q1R p l 0=(l.takeWhile p).length:=by
  simp only[Q1R,Int.toNat_zero,List.drop_zero];rw[if_neg (by omega)]
 rw[e0,<-h];rw[Bool.eq_iff_iff];simp only[beq_iff_eq];omega
abbrev Q4P(sp:List (Int×Int)):List Value:=sp.flatMap fun x=>[.int .i32 x.1,.int .i32 x.2]
def Q73(r:Int)(sp:List (Int×Int)):Bool:=sp.any fun x=>decide (x.1<=r)&&decide (r<=x.2)
theorem Qav(sp:List (Int×Int))(j:Nat)(hj:j<sp.length):(Q4P sp)[j * 2]?=some (.int .i32 sp[j].1)/\(Q4P sp)[j * 2+1]?=some (.int .i32 sp[j].2):=by
 induction sp generalizing j with
 |nil=>simp at hj
 |cons a t ih =>
  cases j with
  |zero=>simp[Q4P]
  |succ j =>
   have:=ih j (by simpa using hj)
   have e1:(j+1) * 2=j * 2+2:=by omega
   rw[e1];simpa[Q4P]using this
theorem QhD(r:Int)(sp:List (Int×Int))(j:Nat)(hj:j<sp.length) :
  Q73 r (sp.take (j+1))=(Q73 r (sp.take j)||(decide (sp[j].1<=r)&&decide (r<=sp[j].2))):=by
 simp only[Q73,List.take_succ_eq_append_getElem hj,List.any_append];simp
theorem QhW(r:Int)(sp:List (Int×Int))(j:Nat)(hj:j<sp.length)(h1:sp[j].1<=r)(h2:r<=sp[j].2):Q73 r sp=true:=by
 simp only[Q73,List.any_eq_true];exact⟨sp[j],getElem_mem hj,by simp[h1,h2]⟩
theorem Qfh(S:Nat->Prop)(A:Option Addr)(n c:Nat)(r:Int)(sp:List (Int×Int))(w:World)(hr:Rd w S 2 A n c (Q4P sp))(hn:n=sp.length) :
  Calls prog 169 #[.int .i32 r,.slice A n c] w fun e w'=>e=.returned (.bool (Q73 r sp))/\Below w.heap.size w w':=by
 have hle:=hr.le;have hmx:c<=9223372036854775807:=hr.max;subst hn;have HR:=hid hr;clear hr;go_enter func169,ntmps169
 go_wp2
 go_loopw [9] (fun i wr=>∃j:Nat,j<=sp.length/\i=.int .i64 j/\Hid (Below w.heap.size w wr)/\Hid (Q73 r (sp.take j)=false)) (fun i _=>sp.length-(intOf i).toNat)
 case atStart=>exact⟨0,zero_le _,rfl,Below.refl _ _,rfl⟩
 case round =>
  obtain⟨j,hj,rfl,HB,HQ⟩:=hrel;by_cases hlt:j<sp.length
  ·obtain⟨b,o,rfl,_,hcs⟩:=(HR.out.below HB.out).at_ (by omega)
   obtain⟨g0,g1⟩:=Qav sp j hlt;have hc0:=hcs _ _ g0;have hc1:wr.cell? ⟨b,o+j * 2+1,none⟩=_:=hcs _ _ g1;clear g0 g1 hcs;generalize e0:sp[j].1=lo at hc0;generalize e1:sp[j].2=hi at hc1;have HS:=hid (QhD r sp j hlt);rw[e0,e1]at HS;have HN:=hid (QhW r sp j hlt);rw[e0,e1]at HN;clear e0 e1;go_wp2
   ·go_ret
    exact⟨Qw (by rw[HN.out (by assumption) (by assumption)]),(HB.out.alloc HB.out.size _).trans (Below.refl _ _)⟩
   ·go_roundw
    case rel =>
     have h:hi<r:=by assumption
     exact⟨j+1,by omega,by go_num,HB.out.alloc HB.out.size _,by rw[Hid,HS.out,HQ.out];simp;omega⟩
    case measure=>simp[intOf];omega
   ·go_roundw
    case rel =>
     have h:¬lo<=r:=by assumption
     exact⟨j+1,by omega,by go_num,HB.out.alloc HB.out.size _,by rw[Hid,HS.out,HQ.out];simp;omega⟩
    case measure=>simp[intOf];omega
  ·have e:sp.take j=sp:=List.take_of_length_le (by omega)
   rw[e]at HQ;clear e;go_wp2
   go_ret
   exact⟨Qw HQ.out.symm,HB.out⟩
def Qkn:List (Int×Int):=[(0x20,0xD7FF),(0x9,0xA),(0xD,0xD),(0xE000,0xFFFD),(0x10000,0x10FFFF)]
def Q7Q:List (Int×Int):=[(97,122),(65,90),(58,58),(95,95),(0xC0,0xD6),(0xD8,0xF6),(0xF8,0x2FF),(0x370,0x37D),
 (0x37F,0x1FFF),(0x200C,0x200D),(0x2070,0x218F),(0x2C00,0x2FEF),(0x3001,0xD7FF),(0xF900,0xFDCF),(0xFDF0,0xFFFD),(0x10000,0xEFFFF)]
def QbE:List (Int×Int):=[(48,57),(45,46),(0xB7,0xB7),(0x300,0x36F),(0x203F,0x2040)]
def QeP(r:Int):Bool:=Q73 r Qkn
def Qx(r:Int):Bool:=Q73 r Q7Q
def Qv(r:Int):Bool:=Qx r||Q73 r QbE
theorem QiL(r:Int)(w:World):Calls prog 129 #[.int .i32 r] w fun e w'=>e=.returned (.bool (QeP r))/\Below w.heap.size w w':=by
 go_enter func129,ntmps129
 go_wp2_with fail
 refine(Qfh _ _ 5 5 r Qkn _ (Rd.lit w _ _ 2 5 rfl (by decide)) rfl).mono ?_
 rintro e w' ⟨rfl,hb⟩;go_wp2
 go_ret
 exact⟨rfl,Q4T ((Below.refl _ _).alloc (le_refl _) _) hb⟩
theorem Q6F(r:Int)(w:World):Calls prog 124 #[.int .i32 r] w fun e w'=>e=.returned (.bool (Qx r))/\Below w.heap.size w w':=by
 go_enter func124,ntmps124
 go_wp2_with fail
 refine(Qfh _ _ 16 16 r Q7Q _ (Rd.lit w _ _ 2 16 rfl (by decide)) rfl).mono ?_
 rintro e w' ⟨rfl,hb⟩;go_wp2
 go_ret
 exact⟨rfl,Q4T ((Below.refl _ _).alloc (le_refl _) _) hb⟩
theorem Qca(r:Int)(w:World):Calls prog 125 #[.int .i32 r] w fun e w'=>e=.returned (.bool (Qv r))/\Below w.heap.size w w':=by
 have HN:=hid (Q6F r w);cases hq:Qx r with
 |true =>
  rw[hq]at HN;have HI:Hid (Qv r=true):=by rw[Hid,Qv,hq];rfl
  clear hq;go_enter func125,ntmps125
  go_wp2_with (go_at_call 124;refine HN.out.mono ?_;rintro e w' ⟨rfl,hb⟩);go_ret
  exact⟨Qw HI.out.symm,hb⟩
 |false =>
  rw[hq]at HN;have HI:Hid (Qv r=Q73 r QbE):=by rw[Hid,Qv,hq];rfl
  clear hq;go_enter func125,ntmps125
  go_wp2_with (go_at_call 124;refine HN.out.mono ?_;rintro e w' ⟨rfl,hb⟩);refine(Qfh _ _ 5 5 r QbE _ (Rd.lit w' _ _ 2 5 rfl (by decide)) rfl).mono ?_
  rintro e w2 ⟨rfl,hb2⟩;go_wp2
  go_ret
  exact⟨Qw HI.out.symm,Q4T (hb.alloc hb.size _) hb2⟩
def Q58(r:Int):Int×Bool:=if r<48\/57<r then(0,false)else(r-48,true)
def QaL(r:Int):Int×Bool:=if 97<=r/\r<=102 then(r-97+10,true)else if 65<=r/\r<=70 then(r-65+10,true)else Q58 r
theorem Qbd(r:Int)(w:World):Calls prog 217 #[.int .i32 r] w fun e w'=>e=.returned (.tuple #[.int .i64 (Q58 r).1,.bool (Q58 r).2])/\w=w':=by
 by_cases h1:r<48
 ·go_enter func217,ntmps217
  go_wp2
  go_ret2
  exact⟨Q5G (if_pos (.inl h1)),rfl⟩
 ·by_cases h2:57<r
  ·go_enter func217,ntmps217
   go_wp2
   go_ret2
   exact⟨Q5G (if_pos (.inr h2)),rfl⟩
  ·go_enter func217,ntmps217
   go_wp2
   go_ret2
   exact⟨Q5G (if_neg (by omega)),rfl⟩
theorem Qlc(r:Int)(w:World):Calls prog 218 #[.int .i32 r] w fun e w'=>e=.returned (.tuple #[.int .i64 (QaL r).1,.bool (QaL r).2])/\w=w':=by
 have HD:=hid (Qbd r w);by_cases h1:97<=r/\r<=102
 ·obtain⟨h2,h3⟩:=h1
  go_enter func218,ntmps218
  go_wp2
  go_ret2
  exact⟨Q5G (if_pos ⟨h2,h3⟩),rfl⟩
 ·by_cases h2:65<=r/\r<=70
  ·obtain⟨h3,h4⟩:=h2
   have h5:¬97<=r:=by omega
   clear h1;go_enter func218,ntmps218
   go_wp2
   go_ret2
   exact⟨Q5G (by rw[QaL,if_neg (by omega),if_pos ⟨h3,h4⟩]),rfl⟩
  ·have HF:Hid (QaL r=Q58 r):=by simp[Hid,QaL,h1,h2]
   generalize QaL r=z at HF ⊢;generalize Q58 r=y at HD HF;by_cases h3:97<=r
   ·have h4:¬r<=102:=by omega
    have h5:65<=r:=by omega
    have h6:¬r<=70:=by omega
    clear h1 h2;go_enter func218,ntmps218
    go_wp2_with (go_at_call 217;refine HD.out.mono ?_;rintro e w' ⟨rfl,rfl⟩);go_ret2
    exact⟨Q5G HF.out,rfl⟩
   ·by_cases h5:65<=r
    ·have h6:¬r<=70:=by omega
     clear h1 h2;go_enter func218,ntmps218
     go_wp2_with (go_at_call 217;refine HD.out.mono ?_;rintro e w' ⟨rfl,rfl⟩);go_ret2
     exact⟨Q5G HF.out,rfl⟩
    ·clear h1 h2
     go_enter func218,ntmps218
     go_wp2_with (go_at_call 217;refine HD.out.mono ?_;rintro e w' ⟨rfl,rfl⟩);go_ret2
     exact⟨Q5G HF.out,rfl⟩
end
section
open Go.RowKit Go.Lib Tryz
def isF(r lo hi:Int):Bool:=decide (lo<=r)&&decide (r<=hi)
def Q5m(r:Int):Bool:=isF r 97 122||isF r 65 90
theorem Q2D(r lo hi:Int)(w:World):Calls prog 171 #[.int .i32 r,.int .i32 lo,.int .i32 hi] w fun e w'=>e=.returned (.bool (isF r lo hi))/\w=w':=by
 by_cases h:lo<=r
 ·go_enter func171,ntmps171
  go_wp2
  go_ret
  exact⟨Qw (by simp[isF,h]),rfl⟩
 ·go_enter func171,ntmps171
  go_wp2
  go_ret
  exact⟨Qw (by rw[isF,decide_eq_false (by omega)];rfl),rfl⟩
theorem Qd6(r:Int):Q5m r=(isF r 97 122||isF r 65 90):=rfl
theorem QeT(r:Int):Qx r=(Q5m r||r == 58||r == 95||(if isF r 192 767 then r != 215&&r != 247 else if isF r 880 8191 then r != 894 else
  isF r 8204 8205||isF r 8304 8591||isF r 11264 12271||isF r 12289 55295||(isF r 63744 64975||isF r 65008 65533||isF r 65536 983039))):=by
 rw[Bool.eq_iff_iff];by_cases h1:isF r 192 767=true
 ·rw[if_pos h1]
  simp[isF]at h1;simp[Qx,Q73,Q7Q,isF,Q5m];omega
 ·rw[if_neg h1]
  simp[isF]at h1;by_cases h2:isF r 880 8191=true
  ·rw[if_pos h2]
   simp[isF]at h2;simp[Qx,Q73,Q7Q,isF,Q5m];omega
  ·rw[if_neg h2]
   simp[isF]at h2;simp[Qx,Q73,Q7Q,isF,Q5m];omega
theorem Qhl(r:Int):Qv r=(Qx r||r == 45||r == 46||isF r 48 57||r == 183||isF r 768 879||r == 8255||r == 8256):=by
 rw[Bool.eq_iff_iff];simp only[Qv];cases Qx r<;>simp[Q73,QbE,isF]<;>omega
theorem Qd3(r:Int)(w:World):Calls prog 170 #[.int .i32 r] w fun e w'=>e=.returned (.bool (Q5m r))/\w=w':=by
 rw[Qd6];have HI1:=fun w=>hid (Q2D r 97 122 w)
 have HI2:=fun w=>hid (Q2D r 65 90 w)
 generalize isF r 97 122=b1 at HI1 ⊢;generalize isF r 65 90=b2 at HI2 ⊢;go_enter func170,ntmps170
 go_wp2_with (first
  |(go_at_call_of 171 (Value.int .i32 97);refine(HI1 _).out.mono ?_;rintro e w' ⟨rfl,rfl⟩)
  |(go_at_call_of 171 (Value.int .i32 65);refine(HI2 _).out.mono ?_;rintro e w' ⟨rfl,rfl⟩))
 all_goals
  go_ret
  exact⟨Qw (by first|rfl|simp_all),rfl⟩
theorem Q5A(r:Int)(w:World):Calls prog 126 #[.int .i32 r] w fun e w'=>e=.returned (.bool (Qx r))/\w=w':=by
 rw[QeT];have HL:=fun w=>hid (Qd3 r w)
 have HI0:=fun w=>hid (Q2D r 192 767 w)
 have HI1:=fun w=>hid (Q2D r 880 8191 w)
 have HI2:=fun w=>hid (Q2D r 8204 8205 w)
 have HI3:=fun w=>hid (Q2D r 8304 8591 w)
 have HI4:=fun w=>hid (Q2D r 11264 12271 w)
 have HI5:=fun w=>hid (Q2D r 12289 55295 w)
 have HI6:=fun w=>hid (Q2D r 63744 64975 w)
 have HI7:=fun w=>hid (Q2D r 65008 65533 w)
 have HI8:=fun w=>hid (Q2D r 65536 983039 w)
 generalize Q5m r=bl at HL ⊢;generalize isF r 192 767=b0 at HI0 ⊢;generalize isF r 880 8191=b1 at HI1 ⊢;generalize isF r 8204 8205=b2 at HI2 ⊢;generalize isF r 8304 8591=b3 at HI3 ⊢;generalize isF r 11264 12271=b4 at HI4 ⊢;generalize isF r 12289 55295=b5 at HI5 ⊢;generalize isF r 63744 64975=b6 at HI6 ⊢;generalize isF r 65008 65533=b7 at HI7 ⊢;generalize isF r 65536 983039=b8 at HI8 ⊢;go_enter func126,ntmps126
 go_wp2_with (first
  |(go_at_call 170;refine(HL _).out.mono ?_;rintro e w' ⟨rfl,rfl⟩)
  |(go_at_call_of 171 (Value.int .i32 192);refine(HI0 _).out.mono ?_;rintro e w' ⟨rfl,rfl⟩)
  |(go_at_call_of 171 (Value.int .i32 880);refine(HI1 _).out.mono ?_;rintro e w' ⟨rfl,rfl⟩)
  |(go_at_call_of 171 (Value.int .i32 8204);refine(HI2 _).out.mono ?_;rintro e w' ⟨rfl,rfl⟩)
  |(go_at_call_of 171 (Value.int .i32 8304);refine(HI3 _).out.mono ?_;rintro e w' ⟨rfl,rfl⟩)
  |(go_at_call_of 171 (Value.int .i32 11264);refine(HI4 _).out.mono ?_;rintro e w' ⟨rfl,rfl⟩)
  |(go_at_call_of 171 (Value.int .i32 12289);refine(HI5 _).out.mono ?_;rintro e w' ⟨rfl,rfl⟩)
  |(go_at_call_of 171 (Value.int .i32 63744);refine(HI6 _).out.mono ?_;rintro e w' ⟨rfl,rfl⟩)
  |(go_at_call_of 171 (Value.int .i32 65008);refine(HI7 _).out.mono ?_;rintro e w' ⟨rfl,rfl⟩)
  |(go_at_call_of 171 (Value.int .i32 65536);refine(HI8 _).out.mono ?_;rintro e w' ⟨rfl,rfl⟩))
 all_goals
  go_ret
  exact⟨Qw (by first|rfl|simp_all),rfl⟩
theorem QaE(r:Int)(w:World):Calls prog 127 #[.int .i32 r] w fun e w'=>e=.returned (.bool (Qv r))/\w=w':=by
 rw[Qhl];have HL:=fun w=>hid (Q5A r w)
 have HI1:=fun w=>hid (Q2D r 48 57 w)
 have HI2:=fun w=>hid (Q2D r 768 879 w)
 generalize Qx r=bl at HL ⊢;generalize isF r 48 57=b1 at HI1 ⊢;generalize isF r 768 879=b2 at HI2 ⊢;go_enter func127,ntmps127
 go_wp2_with (first
  |(go_at_call 126;refine(HL _).out.mono ?_;rintro e w' ⟨rfl,rfl⟩)
  |(go_at_call_of 171 (Value.int .i32 48);refine(HI1 _).out.mono ?_;rintro e w' ⟨rfl,rfl⟩)
  |(go_at_call_of 171 (Value.int .i32 768);refine(HI2 _).out.mono ?_;rintro e w' ⟨rfl,rfl⟩))
 all_goals
  go_ret
  exact⟨Qw (by first|rfl|simp_all),rfl⟩
theorem Rd.rune{w:World}{S:Nat->Prop}{n c:Nat}{A:Option Addr}{l:List Int}(h:Rd w S 1 A n c (rc l)){k:Nat}(hk:k<l.length) :
  ∃b o,A=some ⟨b,o,none⟩/\w.cell? ⟨b,o+k,none⟩=some (.int .i32 l[k]):=by
 have hl:=h.len;obtain⟨b,o,u,e,_,hu,hc⟩:=h.one (k:=k) (by simp at hl;omega)
 obtain⟨_,rfl⟩:=Qcw hu;exact⟨b,o,e,hc⟩
theorem Rd.rlen{w:World}{S:Nat->Prop}{n c:Nat}{A:Option Addr}{l:List Int}(h:Rd w S 1 A n c (rc l)):n=l.length:=by have:=h.len;simpa using this.symm
theorem Q8D(w:World):Q3I prog 125 #[] Qv w:=fun W r _=>Qca r W
theorem Q8y:∀args w,(callFunc 125 args).run prog w=.ok (.enter 125 args) w:=enters_of func125 (by kernel_rfl) rfl
def Ql(l:List Int)(k:Nat):Nat:=match l[k]? with
 |none=>0
 |some r=>if Qx r then((l.drop k).takeWhile Qv).length else 0
theorem Qey(r:Int)(h:Qx r=true):Qv r=true:=by simp[Qv,h]
theorem Q6l(S:Nat->Prop)(A:Option Addr)(n c:Nat)(l:List Int)(k:Nat)(w:World)(hr:Rd w S 1 A n c (rc l))(hk:k<=1000000000) :
  Calls prog 82 #[.slice A n c,.int .i64 k] w fun e w'=>e=.returned (.int .i64 (Ql l k))/\Below w.heap.size w w':=by
 obtain rfl:=hr.rlen;have hle:=hr.le;have hmx:c<=9223372036854775807:=hr.max;have HR:=hid hr;clear hr;by_cases hlt:k<l.length
 ·obtain⟨b,o,rfl,hc0⟩:=HR.out.rune hlt
  have hkl:¬(k:Int) ≥ (l.length:Int):=by omega
  have HS:=fun w=>hid (Q6F l[k] w)
  have HL:Hid (Ql l k=if Qx l[k]then((l.drop k).takeWhile Qv).length else 0):=by rw[Hid,Ql,getElem?_eq_getElem hlt]
  have HF:Hid (Q1R Qv l k=((l.drop k).takeWhile Qv).length):=by rw[Hid,Q1R,if_neg (by omega),Int.toNat_natCast]
  generalize l[k]=r at hc0 HS HL;cases hs:Qx r with
  |true =>
   rw[hs]at HS HL;go_enter func82,ntmps82
   go_wp2_with (first
    |(go_at_call 124;refine(HS _).out.mono ?_;rintro e w' ⟨rfl,hb⟩)
    |(go_at_call 80;refine(Q6j S _ l.length c l k _ #[] Qv w' Q8y (HR.out.below hb) (Q8D w')).mono ?_;rintro e w2 ⟨rfl,hb2⟩))
   go_ret
   exact⟨QX (by rw[HL.out,HF.out];rfl),hb.trans (hb2.mono hb.size)⟩
  |false =>
   rw[hs]at HS HL;go_enter func82,ntmps82
   go_wp2_with (go_at_call 124;refine(HS _).out.mono ?_;rintro e w' ⟨rfl,hb⟩);go_ret
   exact⟨QX (by rw[HL.out];rfl),hb⟩
 ·have hkl:(k:Int) ≥ (l.length:Int):=by omega
  have HL:Hid (Ql l k=0):=by rw[Hid,Ql,List.getElem?_eq_none (by omega)]
  go_enter func82,ntmps82
  go_wp2
  go_ret
  exact⟨QX (by rw[HL.out];rfl),Below.refl _ _⟩
theorem Q5H(p:Int->Bool)(l:List Int)(k j:Nat)(h:∀i,i<j->(h:k+i<l.length)->p l[k+i]=true)(hj:k+j<=l.length)
  (hs:∀h:k+j<l.length,p l[k+j]=false):((l.drop k).takeWhile p).length=j:=by
 induction j generalizing k with
 |zero =>
  by_cases hk:k<l.length
  ·rw[List.drop_eq_getElem_cons hk,takeWhile_cons]
   have:=hs (by omega)
   simp only[add_zero]at this;rw[this];rfl
  ·rw[List.drop_eq_nil_of_le (by omega)];rfl
 |succ j ih =>
  have hk:k<l.length:=by omega
  rw[List.drop_eq_getElem_cons hk,takeWhile_cons];have h0:=h 0 (by omega) (by omega)
  simp only[add_zero]at h0;rw[h0]
  have:=ih (k+1) (fun i hi hl=>by
   have:=h (i+1) (by omega) (by omega)
   simpa[Nat.add_assoc,Nat.add_comm 1]using this) (by omega) (fun hl=>by
   have:=hs (by omega)
   simpa[Nat.add_assoc,Nat.add_comm 1]using this)
  simp[this]
theorem QgC(S:Nat->Prop)(A:Option Addr)(n c:Nat)(l:List Int)(k:Nat)(w:World)(hr:Rd w S 1 A n c (rc l))(hk:k<=1000000000)(hll:l.length<=1000000000) :
  Calls prog 87 #[.slice A n c,.int .i64 k] w fun e w'=>e=.returned (.int .i64 (Ql l k))/\w=w':=by
 obtain rfl:=hr.rlen;have hle:=hr.le;have hmx:c<=9223372036854775807:=hr.max;have HR:=hid hr;clear hr;by_cases hlt:k<l.length
 ·obtain⟨b,o,rfl,hc0⟩:=HR.out.rune hlt
  have hkl:¬(k:Int) ≥ (l.length:Int):=by omega
  have HL:Hid (Ql l k=if Qx l[k]then((l.drop k).takeWhile Qv).length else 0):=by rw[Hid,Ql,getElem?_eq_getElem hlt]
  have HS:=fun w=>hid (Q5A l[k] w)
  cases hs:Qx l[k]with
  |true =>
   have HC0:=hid (Qey _ hs);rw[hs]at HS HL;generalize hrr:l[k]=r at hc0 HS HC0;have HRR:=hid hrr;clear hrr hs;go_enter func87,ntmps87
   go_wp2_with (go_at_call 126;refine(HS _).out.mono ?_;rintro e w' ⟨rfl,rfl⟩);clear hc0;go_loopw [5] (fun v wr=>wr=w/\∃j:Nat,1<=j/\k+j<=l.length/\v=.int .i64 j/\Hid (∀i,i<j->(h:k+i<l.length)->Qv l[k+i]=true)) (fun v _=>l.length-(intOf v).toNat)
   case atStart =>
    refine⟨rfl,1,by omega,by omega,rfl,fun i hi h=>?_⟩
    have e:i=0:=by omega
    subst e;simp only[add_zero];rw[HRR.out];exact HC0.out
   case round =>
    obtain⟨rfl,j,hj1,hj2,rfl,HJ⟩:=hrel;by_cases hlj:k+j<l.length
    ·obtain⟨b2,o2,hA,hc1⟩:=HR.out.rune hlj
     injection hA with hA
     injection hA with e1 e2
     subst e1 e2;have hlj':(k:Int)+(j:Int)<(l.length:Int):=by omega
     have HM:=fun w=>hid (QaE l[k+j] w)
     cases hq:Qv l[k+j]with
     |true =>
      have HJ2:Hid (∀i,i<j+1->(h:k+i<l.length)->Qv l[k+i]=true):=fun i hi h=>by
       by_cases e:i=j
       ·subst e;exact hq
       ·exact HJ.out i (by omega) h
      rw[hq]at HM;clear hq;generalize l[k+j]=r2 at hc1 HM;go_wp2_with (go_at_call 127;refine(HM _).out.mono ?_;rintro e w' ⟨rfl,rfl⟩);go_roundw
      case rel=>exact⟨trivial,j+1,by omega,by omega,by go_num,HJ2.out⟩
      case measure=>simp[intOf];omega
     |false =>
      have HE:Hid (((l.drop k).takeWhile Qv).length=j):=Q5H _ l k j HJ.out (by omega) (fun h=>hq)
      rw[hq]at HM;clear hq;generalize l[k+j]=r2 at hc1 HM;go_wp2_with (go_at_call 127;refine(HM _).out.mono ?_;rintro e w' ⟨rfl,rfl⟩);go_ret
      exact⟨QX (by rw[HL.out,HE.out];rfl),rfl⟩
    ·have hlj':¬(k:Int)+(j:Int)<(l.length:Int):=by omega
     have HE:Hid (((l.drop k).takeWhile Qv).length=j):=Q5H _ l k j HJ.out (by omega) (fun h=>absurd h hlj)
     go_wp2
     go_ret
     exact⟨QX (by rw[HL.out,HE.out];rfl),rfl⟩
  |false =>
   rw[hs]at HS HL;generalize l[k]=r at hc0 HS;clear hs;go_enter func87,ntmps87
   go_wp2_with (go_at_call 126;refine(HS _).out.mono ?_;rintro e w' ⟨rfl,rfl⟩);go_ret
   exact⟨QX (by rw[HL.out];rfl),rfl⟩
 ·have hkl:(k:Int) ≥ (l.length:Int):=by omega
  have HL:Hid (Ql l k=0):=by rw[Hid,Ql,List.getElem?_eq_none (by omega)]
  go_enter func87,ntmps87
  go_wp2
  go_ret
  exact⟨QX (by rw[HL.out];rfl),rfl⟩
def Qdx(l:List UInt8):Bool:=decide (0<(Q1x l).length)&&(Ql (Q1x l) 0 == (Q1x l).length)
theorem Qgt(s:ByteArray)(w:World)(hlen:s.size<=300000000) :
  Calls prog 257 #[.string s] w fun e w'=>e=.returned (.bool (Qdx s.data.toList))/\Below w.heap.size w w':=by
 have HRU:=hid (Qf6 s w hlen);have hll:(Q1x s.data.toList).length<=300000000:=Nat.le_trans (Qev _) (by simpa using hlen)
 have HN:Hid (Qdx s.data.toList=(decide (0<(Q1x s.data.toList).length)&&(Ql (Q1x s.data.toList) 0 == (Q1x s.data.toList).length))):=rfl;generalize Qdx s.data.toList=q at HN ⊢;generalize Q1x s.data.toList=l at HRU HN hll;go_enter func257,ntmps257
 go_wp2_with fail
 refine HRU.out.mono ?_;rintro e w1 ⟨v,rfl,⟨n',hown⟩,hb⟩;obtain⟨A,c,rfl,hro⟩:=Q14 hown;obtain rfl:=hro.rlen;have hle:=hro.le;have hmx:c<=9223372036854775807:=hro.max;have HO:=hid hro;have HB:=hid hb;clear hro hown hb;have HL:=hid (Q6l _ A l.length c l 0 w1 HO.out (by omega))
 by_cases h0:0<l.length
 ·have h0':(0:Int)<(l.length:Int):=by omega
  generalize Ql l 0=m at HL HN;go_wp2_with (go_at_call 82;refine HL.out.mono ?_;rintro e w2 ⟨rfl,hb2⟩);go_ret
  refine⟨Qw ?_,HB.out.trans (hb2.mono HB.out.size)⟩;rw[HN.out,decide_eq_true h0,Bool.true_and,Bool.eq_iff_iff];simp only[beq_iff_eq];omega
 ·have h0':¬(0:Int)<(l.length:Int):=by omega
  go_wp2
  go_ret
  refine⟨Qw ?_,HB.out⟩;rw[HN.out,decide_eq_false h0];rfl
end
section
open Go.RowKit Go.Lib
def bi(l:List UInt8):List Int:=l.map fun b=>(b.toNat:Int)
theorem Q7H{l:List Int}{k:Nat}(h:k<l.length):l.getD k 0=l[k]:=by simp[List.getD,h]
end
section
open Go.RowKit Go.Lib Tryz
theorem Qme(w:World):Q3I prog 129 #[] QeP w:=fun W r _=>QiL r W
theorem QlO:∀args w,(callFunc 129 args).run prog w=.ok (.enter 129 args) w:=enters_of func129 (by kernel_rfl) rfl
end
section
open Go.RowKit Go.Lib
theorem bt{a b c:World}(h:Below a.heap.size a b)(k:Below b.heap.size b c):Below a.heap.size a c:=h.trans (k.mono h.size)
theorem ba(w:World)(o:Obj):Below w.heap.size w (w.alloc o):=(Below.refl _ w).alloc (le_refl _) _
theorem Q6s{w1 w2:World}{p:Addr}{v:Value}(hb:Below w1.heap.size w1 w2)(h:w1.cell? p=some v):w2.cell? p=some v :=
 (World.cell?_of_block (hb.block _ (World.block_lt_of_cell? w1 p h))).trans h
theorem QiD(w:World)(cs:Array Value)(t:TypeId)(k:Nat){u:Value}(h:cs[k]?=some u):(w.alloc (.cells cs t)).cell? ⟨w.heap.size,k,none⟩=some u:=by
 rw[World.cell?_alloc_at _ _ _ _ rfl];exact h
end
section
open Go.RowKit
end
section
open Go.RowKit Tryz
theorem Qcy(w:World):Q3I prog 81 #[] Q8 w:=fun W r _=>(Qgr r W).mono fun _ _ ⟨h1,h2⟩=>⟨h1,h2 ▸ Below.refl _ _⟩
theorem Qkd:∀args w,(callFunc 81 args).run prog w=.ok (.enter 81 args) w:=enters_of func81 (by kernel_rfl) rfl
end
section
open Go.RowKit Go.Lib
theorem bb{B:Nat}{a b c:World}(h:Below B a b)(k:Below b.heap.size b c)(hB:B<=b.heap.size):Below B a c:=h.trans (k.mono hB)
end
section
open Go.RowKit Go.Lib Tryz
def Q7(l:List Int)(k:Nat)(bs:List UInt8):Bool:=bs.all (fun b=>decide (b.toNat<128))&&((l.drop k).take bs.length == bi bs)
theorem Q8E(l:List Int)(k:Nat)(bs:List UInt8)(hl:k+bs.length<=l.length)
  (h:∀i (h:i<bs.length),bs[i].toNat<128/\l[k+i]'(by omega)=bs[i].toNat):Q7 l k bs=true:=by
 rw[Q7,Bool.and_eq_true];refine⟨List.all_eq_true.2 fun b hb=>?_,?_⟩
 ·obtain⟨i,hi,rfl⟩:=List.getElem_of_mem hb
  exact decide_eq_true (h i hi).1
 ·rw[beq_iff_eq]
  apply List.ext_getElem
  ·simp[bi];omega
  ·intro i h1 h2
   rw[List.getElem_take,List.getElem_drop];have hi:i<bs.length:=by simpa[bi]using h2
   rw[(h i hi).2];simp[bi]
theorem Q8G(l:List Int)(k:Nat)(bs:List UInt8)(i:Nat)(hi:i<bs.length)(hl:k+i<l.length)(h:¬(bs[i].toNat<128/\l[k+i]=bs[i].toNat)):Q7 l k bs=false:=by
 cases hs:Q7 l k bs with
 |false=>rfl
 |true =>
  exfalso;rw[Q7,Bool.and_eq_true,beq_iff_eq]at hs;obtain⟨h1,h2⟩:=hs;refine h ⟨of_decide_eq_true (List.all_eq_true.1 h1 _ (getElem_mem hi)),?_⟩;have h3:=congrArg (fun x=>x[i]?) h2
  simp only[List.getElem?_take,List.getElem?_drop,hi,if_true,bi,List.getElem?_map,getElem?_eq_getElem hi,getElem?_eq_getElem hl,Option.map_some,Option.some.injEq]at h3;exact h3
theorem Q54(l:List Int)(k:Nat)(bs:List UInt8)(h:l.length<k+bs.length)(hk:k<=l.length):Q7 l k bs=false:=by
 cases hs:Q7 l k bs with
 |false=>rfl
 |true =>
  exfalso;rw[Q7,Bool.and_eq_true,beq_iff_eq]at hs;have:=congrArg List.length hs.2
  simp[bi]at this;omega
theorem Q1s(S:Nat->Prop)(A:Option Addr)(n c:Nat)(l:List Int)(k:Nat)(s:ByteArray)(w:World)(hr:Rd w S 1 A n c (rc l))(hk:k<=l.length)(hk9:l.length<=1000000000)(hs9:s.size<=1000000000) :
  Calls prog 11 #[.slice A n c,.int .i64 k,.string s] w fun e w'=>e=.returned (.bool (Q7 l k s.data.toList))/\Below w.heap.size w w':=by
 obtain rfl:=hr.rlen;have hle:=hr.le;have hmx:c<=9223372036854775807:=hr.max;have HR:=hid hr;clear hr;have hsz:s.data.toList.length=s.size:=by simp
 have hkl:¬(k:Int) > (l.length:Int):=by omega
 by_cases hshort:l.length<k+s.size
 ·have HE:=hid (Q54 l k s.data.toList (by omega) hk)
  have hsh:(l.length:Int)-(k:Int)<(s.size:Int):=by omega
  go_enter func11,ntmps11
  go_wp2
  go_ret
  exact⟨Qw HE.out.symm,Below.refl _ _⟩
 ·have hsh:¬(l.length:Int)-(k:Int)<(s.size:Int):=by omega
  go_enter func11,ntmps11
  go_wp2
  go_loopw [27] (fun i wr=>∃j:Nat,j<=s.size/\i=.int .i64 j/\Hid (Below w.heap.size w wr)/\Hid (∀i,i<j->(h1:i<s.data.toList.length)->(h2:k+i<l.length)->s.data.toList[i].toNat<128/\l[k+i]=s.data.toList[i].toNat)) (fun i _=>s.size-(intOf i).toNat)
  case atStart=>exact⟨0,zero_le _,rfl,Below.refl _ _,fun i h=>absurd h (by omega)⟩
  case round =>
   obtain⟨j,hj,rfl,HB,HJ⟩:=hrel;by_cases hlt:j<s.size
   ·have hlt2:j<s.data.toList.length:=by omega
    have hlt3:j<s.data.size:=hlt;have hkj:k+j<l.length:=by omega
    have hkj':(k:Int)+(j:Int)<(l.length:Int):=by omega
    obtain⟨b,o,rfl,hc0⟩:=(HR.out.below HB.out).rune hkj;have hx:s.data.toList[j]=s.data[j]:=by simp
    have hb:=(s.data[j]).toNat_lt
    have hw:wrap32 ((s[j]).toNat:Int)=((s.data[j]).toNat:Int):=by
     show wrap32 ((s.data[j]).toNat:Int)=_;rw[<-IntWalk.i32_left];exact IntWalk.i32_in _ (by omega)
    have HM:=hid (Q8G l k s.data.toList j hlt2 hkj);have HX:=hid hx;rw[hx]at HM
    have HJ2:(s.data[j]).toNat<128->l[k+j]=(s.data[j]).toNat->Hid (∀i,i<j+1->(h1:i<s.data.toList.length)->(h2:k+i<l.length)->s.data.toList[i].toNat<128/\l[k+i]=s.data.toList[i].toNat):=fun e1 e2 i hi h1 h2=>by
     by_cases e:i=j
     ·subst e;rw[HX.out];exact⟨e1,e2⟩
     ·exact HJ.out i (by omega) h1 h2
    clear hx;generalize l[k+j]=r at hc0 HM HJ2;by_cases h128:(s.data[j]).toNat<128
    ·have hge:¬((s.data[j]).toNat:Int) ≥ 128:=by omega
     have hge3:decide ((128:Int)<=((s[j]).toNat:Int))=false:=by show decide ((128:Int)<=((s.data[j]).toNat:Int))=false;rw[decide_eq_false_iff_not];omega
     by_cases hrb:r=(s.data[j]).toNat
     ·have HJ3:=HJ2 h128 hrb
      have hn:(r != ((s.data[j]).toNat:Int))=false:=by simpa using hrb
      clear HJ2 HM;go_wp2
      go_quiet (fail)
      go_wp2
      go_roundw
      case rel=>exact⟨j+1,by omega,by go_num,QV HB.out _,HJ3.out⟩
      case measure=>simp[intOf];omega
     ·have HE:Hid (Q7 l k s.data.toList=false):=HM.out fun h=>hrb h.2
      have hn:(r != ((s.data[j]).toNat:Int))=true:=by simpa using hrb
      clear HJ2 HM;go_wp2
      go_quiet (fail)
      go_wp2
      go_ret
      exact⟨Qw HE.out.symm,QV HB.out _⟩
    ·have hge:((s.data[j]).toNat:Int) ≥ 128:=by omega
     have hge3:decide ((128:Int)<=((s[j]).toNat:Int))=true:=by show decide ((128:Int)<=((s.data[j]).toNat:Int))=true;rw[decide_eq_true_iff];omega
     have HE:Hid (Q7 l k s.data.toList=false):=HM.out fun h=>h128 h.1
     clear HJ2 HM;go_wp2
     go_quiet (fail)
     go_wp2
     go_ret
     exact⟨Qw HE.out.symm,QV HB.out _⟩
   ·have HE:Hid (Q7 l k s.data.toList=true):=Q8E l k _ (by omega) fun i h=>HJ.out i (by omega) h (by omega)
    go_wp2
    go_ret
    exact⟨Qw HE.out.symm,HB.out⟩
def Q45(l:List Int)(k t:Nat)(bs:List UInt8):Option Nat:=(List.range' k (t+1-bs.length-k)).find? (fun i=>Q7 l i bs)
theorem Qht(l:List Int)(k t:Nat)(bs:List UInt8)(j:Nat)(hk:k<=j)(ht:j+bs.length<=t)(h:∀i,k<=i->i<j->Q7 l i bs=false)(hj:Q7 l j bs=true):Q45 l k t bs=some j:=by
 rw[Q45,List.find?_range'_eq_some];exact⟨hj,List.mem_range'_1.2 ⟨hk,by omega⟩,fun i h1 h2=>by rw[h i h1 h2];rfl⟩
theorem Qel(l:List Int)(k t:Nat)(bs:List UInt8)(h:∀i,k<=i->i+bs.length<=t->Q7 l i bs=false):Q45 l k t bs=none:=by
 rw[Q45,List.find?_eq_none];intro i hi;have:=List.mem_range'_1.1 hi
 rw[h i this.1 (by omega)]
 decide
theorem Qgu(S:Nat->Prop)(A:Option Addr)(n c:Nat)(l:List Int)(k t:Nat)(s:ByteArray)(w:World)(hr:Rd w S 1 A n c (rc l))(hk:k<=l.length)(ht:t<=l.length)(hk9:l.length<=1000000000)(hs9:s.size<=1000000000) :
  Calls prog 212 #[.slice A n c,.int .i64 k,.int .i64 t,.string s] w fun e w'=>e=.returned (.tuple #[.int .i64 ((Q45 l k t s.data.toList).getD 0),.bool (Q45 l k t s.data.toList).isSome])/\Below w.heap.size w w':=by
 obtain rfl:=hr.rlen;have hle:=hr.le;have hmx:c<=9223372036854775807:=hr.max;have HR:=hid hr;clear hr;have hkl:¬(k:Int) > (l.length:Int):=by omega
 have htl:¬(t:Int) > (l.length:Int):=by omega
 have hsz:s.data.toList.length=s.size:=by simp
 have HS:=fun W (j:Nat) (hj:j<=l.length) (h:Below w.heap.size w W)=>hid (Q1s S A l.length c l j s W (HR.out.below h) hj hk9 hs9)
 have HH:=hid (Qht l k t s.data.toList);have HN:=hid (Qel l k t s.data.toList);generalize Q45 l k t s.data.toList=q at HH HN ⊢;go_enter func212,ntmps212
 go_wp2
 go_loopw [10] (fun i wr=>∃j:Nat,k<=j/\j<=l.length+1/\i=.int .i64 j/\Hid (Below w.heap.size w wr)/\Hid (∀i,k<=i->i<j->Q7 l i s.data.toList=false)) (fun i _=>l.length+1-(intOf i).toNat)
 case atStart=>exact⟨k,le_refl _,by omega,rfl,Below.refl _ _,fun i h1 h2=>absurd h2 (by omega)⟩
 case round =>
  obtain⟨j,hj1,hj2,rfl,HB,HJ⟩:=hrel;by_cases hlt:j+s.size<=t
  ·have hlt2:(j:Int)<=(t:Int)-(s.size:Int):=by omega
   have HC:=HS _ j (by omega) HB.out
   cases hq:Q7 l j s.data.toList with
   |true =>
    rw[hq]at HC;have HE:Hid (q=some j):=HH.out j hj1 (by omega) HJ.out hq
    clear hq;go_wp2_with (go_at_call 11;refine HC.out.mono ?_;rintro e w' ⟨rfl,hb⟩);go_ret2
    rw[HE.out];exact⟨rfl,HB.out.trans (hb.mono HB.out.size)⟩
   |false =>
    rw[hq]at HC
    have HJ2:Hid (∀i,k<=i->i<j+1->Q7 l i s.data.toList=false):=fun i h1 h2=>by
     by_cases e:i=j
     ·subst e;exact hq
     ·exact HJ.out i h1 (by omega)
    clear hq;go_wp2_with (go_at_call 11;refine HC.out.mono ?_;rintro e w' ⟨rfl,hb⟩);go_roundw
    case rel=>exact⟨j+1,by omega,by omega,by go_num,HB.out.trans (hb.mono HB.out.size),HJ2.out⟩
    case measure=>simp[intOf];omega
  ·have hlt2:¬(j:Int)<=(t:Int)-(s.size:Int):=by omega
   have HE:Hid (q=none):=HN.out fun i h1 h2=>HJ.out i h1 (by omega)
   go_wp2
   go_ret2
   rw[HE.out];exact⟨rfl,HB.out⟩
def I32(l:List Int):Prop:=∀x∈l,-2147483648<=x/\x<=2147483647
theorem Qd8(S:Nat->Prop)(A:Option Addr)(n c:Nat)(l:List Int)(k:Nat)(s:ByteArray)(w:World)(hr:Rd w S 1 A n c (rc l))(hk:k<=l.length)(hk9:l.length<=1000000000)(hs9:s.size<=1000000000)(hi:I32 l) :
  Calls prog 21 #[.slice A n c,.int .i64 k,.string s] w fun e w'=>e=.returned (.bool (Q7 l k s.data.toList))/\Below w.heap.size w w':=by
 obtain rfl:=hr.rlen;have hle:=hr.le;have hmx:c<=9223372036854775807:=hr.max;have HR:=hid hr;have HI:=hid hi;clear hr hi;have hsz:s.data.toList.length=s.size:=by simp
 have hkl:¬(k:Int) > (l.length:Int):=by omega
 by_cases hshort:l.length<k+s.size
 ·have HE:=hid (Q54 l k s.data.toList (by omega) hk)
  have hsh:(s.size:Int) > (l.length:Int)-(k:Int):=by omega
  go_enter func21,ntmps21
  go_wp2
  go_ret
  exact⟨Qw HE.out.symm,Below.refl _ _⟩
 ·have hsh:¬(s.size:Int) > (l.length:Int)-(k:Int):=by omega
  go_enter func21,ntmps21
  go_wp2
  go_loopw [7] (fun i wr=>∃j:Nat,j<=s.size/\i=.int .i64 j/\Hid (Below w.heap.size w wr)/\Hid (∀i,i<j->(h1:i<s.data.toList.length)->(h2:k+i<l.length)->s.data.toList[i].toNat<128/\l[k+i]=s.data.toList[i].toNat)) (fun i _=>s.size-(intOf i).toNat)
  case atStart=>exact⟨0,zero_le _,rfl,Below.refl _ _,fun i h=>absurd h (by omega)⟩
  case round =>
   obtain⟨j,hj,rfl,HB,HJ⟩:=hrel;by_cases hlt:j<s.size
   ·have hlt2:j<s.data.toList.length:=by omega
    have hlt3:j<s.data.size:=hlt;have hkj:k+j<l.length:=by omega
    have hkj':(k:Int)+(j:Int)<(l.length:Int):=by omega
    obtain⟨b,o,rfl,hc0⟩:=(HR.out.below HB.out).rune hkj;have hx:s.data.toList[j]=s.data[j]:=by simp
    have hb:=(s.data[j]).toNat_lt
    have hw:wrap64 ((s[j]).toNat:Int)=((s.data[j]).toNat:Int):=by
     show wrap64 ((s.data[j]).toNat:Int)=_;exact IntWalk.wrap64_in _ (by omega)
    have hri:=HI.out _ (getElem_mem hkj);have HM:=hid (Q8G l k s.data.toList j hlt2 hkj);have HX:=hid hx;rw[hx]at HM
    have HJ2:(s.data[j]).toNat<128->l[k+j]=(s.data[j]).toNat->Hid (∀i,i<j+1->(h1:i<s.data.toList.length)->(h2:k+i<l.length)->s.data.toList[i].toNat<128/\l[k+i]=s.data.toList[i].toNat):=fun e1 e2 i hi h1 h2=>by
     by_cases e:i=j
     ·subst e;rw[HX.out];exact⟨e1,e2⟩
     ·exact HJ.out i (by omega) h1 h2
    clear hx;generalize l[k+j]=r at hc0 HM HJ2 hri;by_cases h128:(s.data[j]).toNat<128
    ·have hge:¬((s.data[j]).toNat:Int) > 127:=by omega
     have hge3:decide ((127:Int)<((s[j]).toNat:Int))=false:=by show decide ((127:Int)<((s.data[j]).toNat:Int))=false;rw[decide_eq_false_iff_not];omega
     by_cases hrb:r=(s.data[j]).toNat
     ·have HJ3:=HJ2 h128 hrb
      have hn:(r != ((s.data[j]).toNat:Int))=false:=by simpa using hrb
      clear HJ2 HM;go_wp2
      go_quiet (fail)
      go_wp2
      go_roundw
      case rel=>exact⟨j+1,by omega,by go_num,QV HB.out _,HJ3.out⟩
      case measure=>simp[intOf];omega
     ·have HE:Hid (Q7 l k s.data.toList=false):=HM.out fun h=>hrb h.2
      have hn:(r != ((s.data[j]).toNat:Int))=true:=by simpa using hrb
      clear HJ2 HM;go_wp2
      go_quiet (fail)
      go_wp2
      go_ret
      exact⟨Qw HE.out.symm,QV HB.out _⟩
    ·have hge:((s.data[j]).toNat:Int) > 127:=by omega
     have hge3:decide ((127:Int)<((s[j]).toNat:Int))=true:=by show decide ((127:Int)<((s.data[j]).toNat:Int))=true;rw[decide_eq_true_iff];omega
     have HE:Hid (Q7 l k s.data.toList=false):=HM.out fun h=>h128 h.1
     clear HJ2 HM;go_wp2
     go_quiet (fail)
     go_wp2
     go_ret
     exact⟨Qw HE.out.symm,QV HB.out _⟩
   ·have HE:Hid (Q7 l k s.data.toList=true):=Q8E l k _ (by omega) fun i h=>HJ.out i (by omega) h (by omega)
    go_wp2
    go_ret
    exact⟨Qw HE.out.symm,HB.out⟩
def Q1Q(l:List Int):List UInt8:=l.flatMap Q2S
theorem QhB(r:Int)(h:0<Qs r):Qm3 r=encodeRune r:=by
 unfold Qs at h;split at h
 ·omega
 ·rename_i h1
  have hv:Utf8.valid r=true:=by simp[Utf8.valid];omega
  by_cases h2:r<128
  ·rw[Qef r (by omega) h2,encodeRune,encodeRuneZ_one (by omega) (by omega)];rfl
  ·unfold Qm3 Utf8.encode
   simp only[hv,if_true];rw[if_neg (by omega)]
   by_cases h3:r<2048
   ·rw[if_pos (by omega),encodeRune,encodeRuneZ_two (by omega) (by omega)]
    simp only[map_cons,map_nil];rw[show((192+r / 64).toNat)=192+r.toNat / 64 by omega,show((128+r % 64).toNat)=128+r.toNat % 64 by omega]
   ·rw[if_neg (by omega)]
    by_cases h4:r<65536
    ·rw[if_pos (by omega),encodeRune,encodeRuneZ_three (by omega)]
     simp only[map_cons,map_nil];rw[show((224+r / 4096).toNat)=224+r.toNat / 4096 by omega,show((128+r / 64 % 64).toNat)=128+r.toNat / 64 % 64 by omega,show((128+r % 64).toNat)=128+r.toNat % 64 by omega]
    ·rw[if_neg (by omega),encodeRune,encodeRuneZ_four (by omega) (by omega)]
     simp only[map_cons,map_nil];rw[show((240+r / 262144).toNat)=240+r.toNat / 262144 by omega,show((128+r / 4096 % 64).toNat)=128+r.toNat / 4096 % 64 by omega,show((128+r / 64 % 64).toNat)=128+r.toNat / 64 % 64 by omega,show((128+r % 64).toNat)=128+r.toNat % 64 by omega]
theorem Qba(r:Int):(Q2S r).length<=4:=by
 unfold Q2S;split
 ·simp
 ·rw[Q4F r (by omega)];unfold Qs;repeat' split
  all_goals omega
theorem QhH(r:Int)(h:0<Qs r):(Utf8.encode r).data.toList=Q2S r:=by rw[Q2S,if_neg (by omega)];exact QhB r h
theorem Q75(l:List Int):(Q1Q l).length<=4 * l.length:=by
 induction l with
 |nil=>simp[Q1Q]
 |cons r t ih =>
  have:=Qba r
  simp only[Q1Q,List.flatMap_cons,List.length_append,length_cons]at ih ⊢;omega
theorem QcM(l:List Int)(k:Nat)(h:k<l.length):Q1Q (l.take (k+1))=Q1Q (l.take k)++Q2S l[k]:=by
 rw[Q1Q,Q1Q,List.take_succ_eq_append_getElem h,List.flatMap_append];simp
theorem Qmo:(prog.info? 5).map (fun i=>(i.zero,i.size,i.bytes))=some (some (.int .u8 0),1,1):=by kernel_rfl
theorem Qct(w:World){ops:Array Oper}{rest:List Oper}{o:Oper}{a:Act}{Q:Exit->Act->World->Prop}(hgd:o.guard=none)(s x:Operand)
  (ho:o.op=.call { callee:=.builtin .append,args:=#[s,x],argTypes:=#[64,64] })
  (base:Nat) (v:Value) (n:Nat) (xs:List UInt8) (hs:a.eval s=v) (hown:w.ownsRow base 5 1 v n (bc xs))
  (S:Nat->Prop) (A:Option Addr) (m c:Nat) (ys:List UInt8) (hx:a.eval x=.slice A m c) (hr:Rd w S 1 A m c (bc ys))
  (hlen:n+m<=1000000000) (hbase:base<=w.heap.size)
  (h:∀A' c' w',w'.ownsRow base 5 1 (.slice A' (n+m) c') (n+m) (bc (xs++ys))->w.grownBy w' v.ownBlock ->
    c'<=9223372036854775807->wpList prog ops Q rest (a.put o.dst (.slice A' (n+m) c')) w') :
  wpList prog ops Q (o::rest) a w:=by
 obtain⟨i0,hi,hz0,hz1,hz2⟩:=info_parts Qmo;refine Q2q w hgd s x 64 ho base 5 i0 _ 1 1 underlying64 hi hz0 hz1 hz2 rfl (by omega) v n (bc xs) hs hown S A m c (bc ys) hx hr (QmA ys) (by simp only[maxLen];omega) (by omega) hbase ?_
 intro v' w' h1 h2 h3;obtain⟨A',c',rfl,hr'⟩:=Q14 h1;exact h A' c' w' (by simpa[bc]using h1) h2 hr'.max
theorem QeB(w:World){ops:Array Oper}{rest:List Oper}{o:Oper}{a:Act}{Q:Exit->Act->World->Prop}(hgd:o.guard=none)(s x:Operand)
  (ho:o.op=.call { callee:=.builtin .append,args:=#[s,x],argTypes:=#[64,9] })
  (base:Nat) (v:Value) (n:Nat) (xs:List UInt8) (hs:a.eval s=v) (hown:w.ownsRow base 5 1 v n (bc xs))
  (str:ByteArray) (hx:a.eval x=.string str) (hlen:n+str.size<=1000000000) (hbase:base<=w.heap.size)
  (h:∀A' c' w',w'.ownsRow base 5 1 (.slice A' (n+str.size) c') (n+str.size) (bc (xs++str.data.toList))->w.grownBy w' v.ownBlock ->
    c'<=9223372036854775807->wpList prog ops Q rest (a.put o.dst (.slice A' (n+str.size) c')) w') :
  wpList prog ops Q (o::rest) a w:=by
 obtain⟨i0,hi,hz0,hz1,hz2⟩:=info_parts Qmo;refine wpList_append_own_string w hgd s x 64 9 ho base 5 i0 underlying64 underlying9 hi hz0 hz1 hz2 v n (bc xs) hs hown str hx (by simp only[maxLen];omega) (by omega) hbase ?_
 intro v' w' h1 h2 h3;obtain⟨A',c',rfl,hr'⟩:=Q14 h1;exact h A' c' w' (by simpa[bc,strCells]using h1) h2 hr'.max
theorem Q9k{w:World}{base:Nat}{e:TypeId}{v:Value}{n:Nat}{xs:List UInt8}(h:w.ownsRow base e 1 v n (bc xs)):n=xs.length:=by have:=h.1;simpa using this.symm
theorem QaZ(S:Nat->Prop)(A:Option Addr)(n c:Nat)(l:List Int)(w:World)(hr:Rd w S 1 A n c (rc l))(hn9:l.length<=100000000) :
  Calls prog 78 #[.slice A n c] w fun e w'=>∃v,e=.returned v/\(∃n',w'.ownsRow w.heap.size 5 1 v n' (bc (Q1Q l)))/\Below w.heap.size w w':=by
 obtain rfl:=hr.rlen;have hle:=hr.le;have hmx:c<=9223372036854775807:=hr.max;have HR:=hid hr;clear hr;go_enter func78,ntmps78
 go_wp2
 go_loopw [3,8] (fun v i wr=>∃(k:Nat),k<=l.length/\i=.int .i64 k/\Hid (∃n',wr.ownsRow w.heap.size 5 1 v n' (bc (Q1Q (l.take k))))/\Hid (Below w.heap.size w wr))
  (fun _ i _=>l.length-(intOf i).toNat)
 case atStart=>exact⟨0,zero_le _,rfl,⟨0,World.ownsRow_nil w w.heap.size 5 1⟩,Below.refl _ _⟩
 case round =>
  obtain⟨k,hk,rfl,HO,HB⟩:=hrel;obtain⟨no,HO⟩:=HO.out;have hno:=Q9k HO;have hno2:no<=400000000:=by have:=Q75 (l.take k);simp at this;omega
  clear hno;obtain⟨Ao,co,rfl,hro⟩:=Q14 HO;have hco2:co<=9223372036854775807:=hro.max;have HO:=hid HO;clear hro;by_cases hlt:k<l.length
  ·obtain⟨b,u,rfl,hc0⟩:=(HR.out.below HB.out).rune hlt
   have HST:=hid (QcM l k hlt);have HW:=fun w=>hid (Q8b l[k] w)
   have HE:=hid (QhH l[k]);have hes:=Qba l[k];have HZ:=hid (fun(h:Qs l[k]=0)=>(by rw[Q2S,if_pos h]:Q2S l[k]=[]))
   generalize l[k]=r at hc0 HST HW HE hes HZ;by_cases h0:Qs r=0
   ·have hw0:¬((Qs r:Nat):Int) > 0:=by omega
    have HZ2:=hid (HZ.out h0);clear HZ HE h0;generalize Qs r=wd at HW hw0;go_wp2_with (go_at_call 121;refine(HW _).out.mono ?_;rintro e w' ⟨rfl,rfl⟩);go_roundw
    case rel=>exact⟨k+1,by omega,by go_num,⟨_,by rw[HST.out,HZ2.out,List.append_nil];exact HO.out⟩,HB.out⟩
    case measure=>simp[intOf];omega
   ·have hw0:((Qs r:Nat):Int) > 0:=by omega
    have HE2:=hid (HE.out (by omega))
    have hsz:(Utf8.encode r).size<=4:=by
     have e:(Utf8.encode r).data.toList.length=(Utf8.encode r).size:=by simp
     rw[<-e,HE2.out];exact hes
    clear HZ HE h0;generalize Qs r=wd at HW hw0
    go_wp2_with (first
     |(go_at_call 121;refine(HW _).out.mono ?_;rintro e w' ⟨rfl,rfl⟩)
     |(at_builtin
       refine QeB _ rfl (.tmp 15) (.tmp 17) rfl w.heap.size _ _ _ rfl HO.out (Utf8.encode r) rfl (by omega) HB.out.size ?_
       intro A4 c4 w4 hown4 hg4 _;have hb4:=Q41 HB.out HB.out.size HO.out hg4;rw[HE2.out]at hown4;have HB4:=hid hb4;have HO4:=hid hown4;clear hown4 hg4 hb4))
    go_roundw
    case rel=>exact⟨k+1,by omega,by go_num,⟨_,by rw[HST.out];exact HO4.out⟩,HB4.out⟩
    case measure=>simp[intOf];omega
  ·have e:l.take k=l:=List.take_of_length_le (by omega)
   rw[e]at HO;go_wp2
   go_ret
   exact⟨_,rfl,⟨_,HO.out⟩,HB.out⟩
end
section
open Go.RowKit Go.Lib
def Q9m(r:Int):Bool:=(Q58 r).2
def Q96(r:Int):Bool:=(QaL r).2
def Q1w(l:List Int)(p n:Nat):Bool:=decide (0<n)&&(l[p+n]? == some 59)
def Q8P(l:List Int)(k:Nat):Nat:=((l.drop (k+2)).takeWhile Q9m).length
def Q8S(l:List Int)(k:Nat):Nat:=((l.drop (k+3)).takeWhile Q96).length
def Q4q(l:List Int)(k:Nat):Nat×Nat×Bool :=
 if Q7 l k [38,35,120]&&Q1w l (k+3) (Q8S l k)then(3,k+4+Q8S l k,true)
 else if Q7 l k [38,35]&&Q1w l (k+2) (Q8P l k)then(3,k+3+Q8P l k,true)
 else if Q1w l (k+1) (Ql l (k+1))then(2,k+2+Ql l (k+1),true)
 else(11,k+1,false)
def QeI(r:Int):Bool:=r != 38
theorem QeY(l:List Int)(k p:Nat):Ql l (k+p)=Ql (l.drop k) p:=by
 rw[Ql,Ql,List.getElem?_drop,List.drop_drop]
theorem QiI(l:List Int)(k:Nat):k<(Q4q l k).2.1:=by
 unfold Q4q;repeat' split
 all_goals (simp only;omega)
theorem Qa6(l:List Int)(p n:Nat)(h:Q1w l p n=true):p+n<l.length:=by
 rw[Q1w,Bool.and_eq_true,beq_iff_eq]at h;exact(List.getElem?_eq_some_iff.1 h.2).1
theorem QkE(l:List Int)(k:Nat)(hk:k<l.length):(Q4q l k).2.1<=l.length:=by
 unfold Q4q;split
 ·rename_i h
  have:=Qa6 _ _ _ (Bool.and_eq_true_iff.1 h).2
  simp only;omega
 ·split
  ·rename_i h
   have:=Qa6 _ _ _ (Bool.and_eq_true_iff.1 h).2
   simp only;omega
  ·split
   ·rename_i h
    have:=Qa6 _ _ _ h
    simp only;omega
   ·simp only;omega
end
section
open Go.RowKit Go.Lib Tryz
theorem Qr{w W:World}{b o n:Nat}(h:w.there b o n)(hb:Below w.heap.size w W)(hlt:b<w.heap.size):W.there b o n:=fun j hj=>by
 obtain⟨h1,h2⟩:=h j hj;refine⟨?_,?_⟩
 ·rw[World.cell?_of_block (hb.block _ hlt)];exact h1
 ·rw[World.frozen?_of_block (hb.block _ hlt)];exact h2
theorem Q29(w:World)(cs:Array Value)(t:TypeId):(w.alloc (.cells cs t)).there w.heap.size 0 cs.size:=fun j hj=>by
 refine⟨?_,by simp⟩
 rw[World.cell?_alloc_at _ _ _ _ rfl];simp[hj]
theorem Qb{B:Nat}{w0 w:World}(h:Below B w0 w)(b:Nat)(hb:B<=b)(vs:List Value)(o:Nat):Below B w0 (w.setCells b o vs):=by
 induction vs generalizing o w with
 |nil=>exact h
 |cons v r ih=>exact ih (h.setCell hb _) (o+1)
theorem Qk{P:Program}{T:TypeId}{d:TypeDesc}(W:World)(B:Nat)(vs:List Value)(ht:W.there B 0 vs.length)(hi:(P.info? T).map (·.size)=some vs.length)
  (hu:P.underlying T=some d) (hd:d.isRow=true):(loadVar T ⟨B,0,none⟩).run P (W.setCells B 0 vs)=.ok (.agg vs.toArray) (W.setCells B 0 vs) :=
 run_loadVar_mid (P:=P) (W.setCells B 0 vs) B 0 T vs d (World.rangeAt_setCells_same W B 0 vs ht) hu hd hi
theorem Q2{w:World}{b n:Nat}(h:w.there b 0 n)(i:Nat)(hi:i<n):(∃v,w.cell? ⟨b,i,none⟩=some v)/\w.frozen? ⟨b,i,none⟩=false:=by
 have:=h i hi
 rw[Nat.zero_add]at this;exact⟨Option.isSome_iff_exists.1 this.1,this.2⟩
theorem Qg{P:Program}{fn:Func}{t:Tmp}{T:TypeId}{a:Addr}{v:Value}{w:World}(h:fn.results=#[.cell t T])(tmps:Array Value)
  (ha:tmps.getD t undef=.pointer (some a)) (hl:(loadVar T a).run P w=.ok v w):(results fn tmps).run P w=.ok v w:=by
 have ha':tmps[t]?.getD undef=.pointer (some a):=by simpa using ha
 simp[results,h,ha',asAddr,hl]
theorem Q3r{P:Program}{fn:Func}{t u:Tmp}{T:TypeId}{a:Addr}{v:Value}{w:World}(h:fn.results=#[.cell t T,.tmp u])(tmps:Array Value)
  (ha:tmps.getD t undef=.pointer (some a)) (hl:(loadVar T a).run P w=.ok v w):(results fn tmps).run P w=.ok (.tuple #[v,tmps.getD u undef]) w:=by
 have ha':tmps[t]?.getD undef=.pointer (some a):=by simpa using ha
 simp[results,h,ha',asAddr,hl]
theorem Qen(r:Int)(w:World):Calls prog 177 #[.int .i32 r] w fun e w'=>e=.returned (.bool (Q9m r))/\w=w':=by
 have HD:=hid (Qbd r w);generalize (Q58 r).1=d1 at HD;have HQ:Hid (Q9m r=(Q58 r).2):=rfl;generalize (Q58 r).2=d2 at HD HQ;go_enter func177,ntmps177
 go_wp2_with fail
 refine HD.out.mono ?_;rintro e w' ⟨rfl,rfl⟩;go_wp2
 go_ret
 exact⟨Qw HQ.out.symm,rfl⟩
theorem QiU(r:Int)(w:World):Calls prog 178 #[.int .i32 r] w fun e w'=>e=.returned (.bool (Q96 r))/\w=w':=by
 have HD:=hid (Qlc r w);generalize (QaL r).1=d1 at HD;have HQ:Hid (Q96 r=(QaL r).2):=rfl;generalize (QaL r).2=d2 at HD HQ;go_enter func178,ntmps178
 go_wp2_with fail
 refine HD.out.mono ?_;rintro e w' ⟨rfl,rfl⟩;go_wp2
 go_ret
 exact⟨Qw HQ.out.symm,rfl⟩
theorem Qb0(w:World):Q3I prog 177 #[] Q9m w:=fun W r _=>(Qen r W).mono fun _ _ ⟨h1,h2⟩=>⟨h1,h2 ▸ Below.refl _ _⟩
theorem Qgn(w:World):Q3I prog 178 #[] Q96 w:=fun W r _=>(QiU r W).mono fun _ _ ⟨h1,h2⟩=>⟨h1,h2 ▸ Below.refl _ _⟩
theorem QgZ:∀args w,(callFunc 177 args).run prog w=.ok (.enter 177 args) w:=enters_of func177 (by kernel_rfl) rfl
theorem QkI:∀args w,(callFunc 178 args).run prog w=.ok (.enter 178 args) w:=enters_of func178 (by kernel_rfl) rfl
theorem Q84(S:Nat->Prop)(A:Option Addr)(n c:Nat)(l:List Int)(p m:Nat)(w:World)(hr:Rd w S 1 A n c (rc l))(hp:p<=2000000000)(hm:m<=2000000000) :
  Calls prog 179 #[.slice A n c,.int .i64 p,.int .i64 m] w fun e w'=>e=.returned (.bool (Q1w l p m))/\w=w':=by
 obtain rfl:=hr.rlen;have hle:=hr.le;have hmx:c<=9223372036854775807:=hr.max;by_cases h0:0<m
 ·have h0i:(m:Int) > 0:=by omega
  by_cases hlt:p+m<l.length
  ·have hlti:(p:Int)+(m:Int)<(l.length:Int):=by omega
   obtain⟨b,o,rfl,hc0⟩:=hr.rune hlt
   have HE:Hid (Q1w l p m=(l[p+m] == 59)):=by
    rw[Hid,Q1w,decide_eq_true h0,getElem?_eq_getElem hlt,Bool.true_and];rfl
   clear hr;generalize l[p+m]=r at hc0 HE;generalize Q1w l p m=q at HE ⊢;go_enter func179,ntmps179
   go_wp2
   go_ret
   exact⟨Qw HE.out.symm,rfl⟩
  ·have hlti:¬(p:Int)+(m:Int)<(l.length:Int):=by omega
   have HE:Hid (Q1w l p m=false):=by rw[Hid,Q1w,decide_eq_true h0,List.getElem?_eq_none (by omega)];rfl
   clear hr;go_enter func179,ntmps179
   go_wp2
   go_ret
   exact⟨Qw HE.out.symm,rfl⟩
 ·have h0i:¬(m:Int) > 0:=by omega
  have HE:Hid (Q1w l p m=false):=by rw[Hid,Q1w,decide_eq_false h0];rfl
  clear hr;go_enter func179,ntmps179
  go_wp2
  go_ret
  exact⟨Qw HE.out.symm,rfl⟩
def Q1t(t:Nat×Nat×Bool)(k:Nat):Value:=.agg #[.int .i64 t.1,.int .i64 k,.int .i64 t.2.1,.bool t.2.2]
theorem Qi7(p:Int->Bool)(l:List Int)(k j:Nat):Q1R p l ((min (k+j) l.length:Nat):Int)=((l.drop (k+j)).takeWhile p).length:=by
 rw[Q1R,if_neg (by omega),Int.toNat_natCast]
 by_cases h:k+j<=l.length
 ·rw[Nat.min_eq_left h]
 ·rw[Nat.min_eq_right (by omega),List.drop_eq_nil_of_le (le_refl _),List.drop_eq_nil_of_le (by omega)]
theorem Qm2(S:Nat->Prop)(A:Option Addr)(n c:Nat)(l:List Int)(k:Nat)(w:World)(hr:Rd w S 1 A n c (rc l))(hk:k<l.length)(hl9:l.length<=1000000000) :
  Calls prog 133 #[.slice A n c,.int .i64 k] w fun e w'=>e=.returned (Q1t (Q4q l k) k)/\Below w.heap.size w w':=by
 obtain rfl:=hr.rlen;have hle:=hr.le;have hmx:c<=9223372036854775807:=hr.max;have HR:=hid hr
 have HRN:∀W,Below w.heap.size w W->Hid (Calls prog 80 #[.slice A l.length c,.int .i64 (min (k+2) l.length:Nat),.func (.func 177) #[] #[]] W fun e w'=>e=.returned (.int .i64 (Q8P l k))/\Below W.heap.size W w'):=fun W h=>by
  have:=Q6j S A l.length c l (min (k+2) l.length:Nat) 177 #[] Q9m W QgZ (HR.out.below h) (Qb0 W)
  rwa [Qi7]at this
 have HRX:∀W,Below w.heap.size w W->Hid (Calls prog 80 #[.slice A l.length c,.int .i64 (min (k+3) l.length:Nat),.func (.func 178) #[] #[]] W fun e w'=>e=.returned (.int .i64 (Q8S l k))/\Below W.heap.size W w'):=fun W h=>by
  have:=Q6j S A l.length c l (min (k+3) l.length:Nat) 178 #[] Q96 W QkI (HR.out.below h) (Qgn W)
  rwa [Qi7]at this
 have hm2:∀ts t W,(Builtin.min_ ts t #[.int .i64 ((k:Int)+2),.int .i64 (l.length:Int)]).run prog W=.ok (.int .i64 (min (k+2) l.length:Nat)) W:=fun ts t W=>by
  rw[run_min_int2];congr 2
  split<;>omega
 have hm3:∀ts t W,(Builtin.min_ ts t #[.int .i64 ((k:Int)+3),.int .i64 (l.length:Int)]).run prog W=.ok (.int .i64 (min (k+3) l.length:Nat)) W:=fun ts t W=>by
  rw[run_min_int2];congr 2
  split<;>omega
 have HS1:∀W,Below w.heap.size w W->Hid (Calls prog 11 #[.slice A l.length c,.int .i64 k,.string ⟨#[38,35,120]⟩] W fun e w'=>e=.returned (.bool (Q7 l k [38,35,120]))/\Below W.heap.size W w') :=
  fun W h=>Q1s S A l.length c l k ⟨#[38,35,120]⟩ W (HR.out.below h) (by omega) hl9 (by decide)
 have HS2:∀W,Below w.heap.size w W->Hid (Calls prog 11 #[.slice A l.length c,.int .i64 k,.string ⟨#[38,35]⟩] W fun e w'=>e=.returned (.bool (Q7 l k [38,35]))/\Below W.heap.size W w') :=
  fun W h=>Q1s S A l.length c l k ⟨#[38,35]⟩ W (HR.out.below h) (by omega) hl9 (by decide)
 have hdn:Q8P l k<=1000000000:=by have:=(List.takeWhile_sublist Q9m (l:=l.drop (k+2))).length_le;rw[length_drop]at this;unfold Q8P;omega
 have hxn:Q8S l k<=1000000000:=by have:=(List.takeWhile_sublist Q96 (l:=l.drop (k+3))).length_le;rw[length_drop]at this;unfold Q8S;omega
 have hln:Ql l (k+1)<=1000000000:=by
  rw[QeY l k 1];unfold Ql;split
  ·omega
  ·split
   ·have:=(List.takeWhile_sublist Qv (l:=(l.drop k).drop 1)).length_le
    simp only[length_drop]at this;omega
   ·omega
 have HLD:∀W,Below w.heap.size w W->Hid (Calls prog 82 #[.slice A l.length c,.int .i64 ((k:Int)+1)] W fun e w'=>e=.returned (.int .i64 (Ql l (k+1)))/\Below W.heap.size W w'):=fun W h=>by
  rw[show((k:Int)+1)=((k+1:Nat):Int) by omega]
  exact Q6l S A l.length c l (k+1) W (HR.out.below h) (by omega)
 have HE1:∀W,Below w.heap.size w W->Hid (Calls prog 179 #[.slice A l.length c,.int .i64 ((k:Int)+3),.int .i64 (Q8S l k)] W fun e w'=>e=.returned (.bool (Q1w l (k+3) (Q8S l k)))/\W=w'):=fun W h=>by
  rw[show((k:Int)+3)=((k+3:Nat):Int) by omega]
  exact Q84 S A l.length c l (k+3) (Q8S l k) W (HR.out.below h) (by omega) (by omega)
 have HE2:∀W,Below w.heap.size w W->Hid (Calls prog 179 #[.slice A l.length c,.int .i64 ((k:Int)+2),.int .i64 (Q8P l k)] W fun e w'=>e=.returned (.bool (Q1w l (k+2) (Q8P l k)))/\W=w'):=fun W h=>by
  rw[show((k:Int)+2)=((k+2:Nat):Int) by omega]
  exact Q84 S A l.length c l (k+2) (Q8P l k) W (HR.out.below h) (by omega) (by omega)
 have HE3:∀W,Below w.heap.size w W->Hid (Calls prog 179 #[.slice A l.length c,.int .i64 ((k:Int)+1),.int .i64 (Ql l (k+1))] W fun e w'=>e=.returned (.bool (Q1w l (k+1) (Ql l (k+1))))/\W=w'):=fun W h=>by
  rw[show((k:Int)+1)=((k+1:Nat):Int) by omega]
  exact Q84 S A l.length c l (k+1) (Ql l (k+1)) W (HR.out.below h) (by omega) (by omega)
 have HREF:Hid (Q4q l k=if Q7 l k [38,35,120]&&Q1w l (k+3) (Q8S l k)then(3,k+4+Q8S l k,true)
  else if Q7 l k [38,35]&&Q1w l (k+2) (Q8P l k)then(3,k+3+Q8P l k,true)
  else if Q1w l (k+1) (Ql l (k+1))then(2,k+2+Ql l (k+1),true)else(11,k+1,false)):=rfl
 generalize Q7 l k [38,35,120]=s1 at HS1 HREF;generalize Q7 l k [38,35]=s2 at HS2 HREF;generalize Q1w l (k+3) (Q8S l k)=e1 at HE1 HREF;generalize Q1w l (k+2) (Q8P l k)=e2 at HE2 HREF;generalize Q1w l (k+1) (Ql l (k+1))=e3 at HE3 HREF;generalize Q8S l k=x at HRX HE1 HREF hxn;generalize Q8P l k=nd at HRN HE2 HREF hdn;generalize Ql l (k+1)=d at HLD HE3 HREF hln;generalize min (k+2) l.length=m2 at HRN hm2;generalize min (k+3) l.length=m3 at HRX hm3;clear hr;go_enter func133,ntmps133
 go_wp2_with fail
 have HTH0:=hid (Q29 w #[.int .i64 0,.int .i64 0,.int .i64 0,.bool false] 178);have HB0:=hid (ba w (.cells #[.int .i64 0,.int .i64 0,.int .i64 0,.bool false] 178));have HSZ:Hid (w.heap.size+1<=(w.alloc (.cells #[.int .i64 0,.int .i64 0,.int .i64 0,.bool false] 178)).heap.size):=by simp[Hid]
 generalize w.alloc (.cells #[.int .i64 0,.int .i64 0,.int .i64 0,.bool false] 178)=W0 at HTH0 HB0 HSZ;refine(HRN _ HB0.out).out.mono ?_;rintro e w1 ⟨rfl,hb1⟩;have HB1:=hid (HB0.out.trans (hb1.mono HB0.out.size));have HTH1:=hid (Qr HTH0.out hb1 (by have:=HSZ.out;omega))
 have HLT:Hid (w.heap.size<w1.heap.size):=by have:=HSZ.out;have:=hb1.size;show _<_;omega
 clear hb1;go_wp2_with fail
 refine(HRX _ HB1.out).out.mono ?_;rintro e w2 ⟨rfl,hb2⟩;have HB2:=hid (HB1.out.trans (hb2.mono HB1.out.size));have HTH2:=hid (Qr HTH1.out hb2 HLT.out);have HLT:=hid (Nat.lt_of_lt_of_le HLT.out hb2.size);clear hb2;go_wp2_with fail
 refine(HLD _ HB2.out).out.mono ?_;rintro e w3 ⟨rfl,hb3⟩;have HB3:=hid (HB2.out.trans (hb3.mono HB2.out.size));have HTH3:=hid (Qr HTH2.out hb3 HLT.out);have HLT:=hid (Nat.lt_of_lt_of_le HLT.out hb3.size);clear hb3;go_wp2_with fail
 refine(HS1 _ HB3.out).out.mono ?_;rintro e w4 ⟨rfl,hb4⟩;have HB4:=hid (HB3.out.trans (hb4.mono HB3.out.size));have HTH4:=hid (Qr HTH3.out hb4 HLT.out);have HLT:=hid (Nat.lt_of_lt_of_le HLT.out hb4.size);clear hb4 HB0 HB1 HB2 HB3 HTH0 HTH1 HTH2 HTH3 HRN HRX HLD HS1;cases s1 with
 |true =>
  go_wp2_with fail
  refine(HE1 _ HB4.out).out.mono ?_;rintro e wx ⟨rfl,rfl⟩;cases e1 with
  |true =>
   have HV:Hid (Q1t (Q4q l k) k=.agg #[.int .i64 3,.int .i64 k,.int .i64 ((k:Int)+4+(x:Int)),.bool true]):=by rw[Hid,HREF.out];simp[Q1t]
   have HL9:=hid (Qk (P:=prog) (T:=178) w4 w.heap.size [.int .i64 3,.int .i64 k,.int .i64 ((k:Int)+4+(x:Int)),.bool true] HTH4.out (by kernel_rfl) underlying178 rfl)
   have HB9:=hid (Qb HB4.out w.heap.size (le_refl _) [.int .i64 3,.int .i64 k,.int .i64 ((k:Int)+4+(x:Int)),.bool true] 0);obtain⟨⟨z0,hz0⟩,hf0⟩:=Q2 HTH4.out 0 (by decide)
   obtain⟨⟨z1,hz1⟩,hf1⟩:=Q2 HTH4.out 1 (by decide)
   obtain⟨⟨z2,hz2⟩,hf2⟩:=Q2 HTH4.out 2 (by decide)
   obtain⟨⟨z3,hz3⟩,hf3⟩:=Q2 HTH4.out 3 (by decide)
   go_wp2
   refine bodyPost_ret (Qg rfl _ rfl HL9.out) rfl ?_;rw[HV.out];exact⟨rfl,HB9.out⟩
  |false =>
   go_wp2_with fail
   refine(HS2 _ HB4.out).out.mono ?_;rintro e w5 ⟨rfl,hb5⟩;have HB5:=hid (HB4.out.trans (hb5.mono HB4.out.size));have HTH5:=hid (Qr HTH4.out hb5 HLT.out);clear hb5;cases s2 with
   |true =>
    go_wp2_with fail
    refine(HE2 _ HB5.out).out.mono ?_;rintro e wx ⟨rfl,rfl⟩;cases e2 with
    |true =>
     have HV:Hid (Q1t (Q4q l k) k=.agg #[.int .i64 3,.int .i64 k,.int .i64 ((k:Int)+3+(nd:Int)),.bool true]):=by rw[Hid,HREF.out];simp[Q1t]
     have HL9:=hid (Qk (P:=prog) (T:=178) w5 w.heap.size [.int .i64 3,.int .i64 k,.int .i64 ((k:Int)+3+(nd:Int)),.bool true] HTH5.out (by kernel_rfl) underlying178 rfl)
     have HB9:=hid (Qb HB5.out w.heap.size (le_refl _) [.int .i64 3,.int .i64 k,.int .i64 ((k:Int)+3+(nd:Int)),.bool true] 0);obtain⟨⟨z0,hz0⟩,hf0⟩:=Q2 HTH5.out 0 (by decide)
     obtain⟨⟨z1,hz1⟩,hf1⟩:=Q2 HTH5.out 1 (by decide)
     obtain⟨⟨z2,hz2⟩,hf2⟩:=Q2 HTH5.out 2 (by decide)
     obtain⟨⟨z3,hz3⟩,hf3⟩:=Q2 HTH5.out 3 (by decide)
     go_wp2
     refine bodyPost_ret (Qg rfl _ rfl HL9.out) rfl ?_;rw[HV.out];exact⟨rfl,HB9.out⟩
    |false =>
     go_wp2_with fail
     refine(HE3 _ HB5.out).out.mono ?_;rintro e wx ⟨rfl,rfl⟩;cases e3 with
     |true =>
      have HV:Hid (Q1t (Q4q l k) k=.agg #[.int .i64 2,.int .i64 k,.int .i64 ((k:Int)+2+(d:Int)),.bool true]):=by rw[Hid,HREF.out];simp[Q1t]
      have HL9:=hid (Qk (P:=prog) (T:=178) w5 w.heap.size [.int .i64 2,.int .i64 k,.int .i64 ((k:Int)+2+(d:Int)),.bool true] HTH5.out (by kernel_rfl) underlying178 rfl)
      have HB9:=hid (Qb HB5.out w.heap.size (le_refl _) [.int .i64 2,.int .i64 k,.int .i64 ((k:Int)+2+(d:Int)),.bool true] 0);obtain⟨⟨z0,hz0⟩,hf0⟩:=Q2 HTH5.out 0 (by decide)
      obtain⟨⟨z1,hz1⟩,hf1⟩:=Q2 HTH5.out 1 (by decide)
      obtain⟨⟨z2,hz2⟩,hf2⟩:=Q2 HTH5.out 2 (by decide)
      obtain⟨⟨z3,hz3⟩,hf3⟩:=Q2 HTH5.out 3 (by decide)
      go_wp2
      refine bodyPost_ret (Qg rfl _ rfl HL9.out) rfl ?_;rw[HV.out];exact⟨rfl,HB9.out⟩
     |false =>
      have HV:Hid (Q1t (Q4q l k) k=.agg #[.int .i64 11,.int .i64 k,.int .i64 ((k:Int)+1),.bool false]):=by rw[Hid,HREF.out];simp[Q1t]
      have HL9:=hid (Qk (P:=prog) (T:=178) w5 w.heap.size [.int .i64 11,.int .i64 k,.int .i64 ((k:Int)+1),.bool false] HTH5.out (by kernel_rfl) underlying178 rfl)
      have HB9:=hid (Qb HB5.out w.heap.size (le_refl _) [.int .i64 11,.int .i64 k,.int .i64 ((k:Int)+1),.bool false] 0);obtain⟨⟨z0,hz0⟩,hf0⟩:=Q2 HTH5.out 0 (by decide)
      obtain⟨⟨z1,hz1⟩,hf1⟩:=Q2 HTH5.out 1 (by decide)
      obtain⟨⟨z2,hz2⟩,hf2⟩:=Q2 HTH5.out 2 (by decide)
      obtain⟨⟨z3,hz3⟩,hf3⟩:=Q2 HTH5.out 3 (by decide)
      go_wp2
      refine bodyPost_ret (Qg rfl _ rfl HL9.out) rfl ?_;rw[HV.out];exact⟨rfl,HB9.out⟩
   |false =>
    go_wp2_with fail
    refine(HE3 _ HB5.out).out.mono ?_;rintro e wx ⟨rfl,rfl⟩;cases e3 with
    |true =>
     have HV:Hid (Q1t (Q4q l k) k=.agg #[.int .i64 2,.int .i64 k,.int .i64 ((k:Int)+2+(d:Int)),.bool true]):=by rw[Hid,HREF.out];simp[Q1t]
     have HL9:=hid (Qk (P:=prog) (T:=178) w5 w.heap.size [.int .i64 2,.int .i64 k,.int .i64 ((k:Int)+2+(d:Int)),.bool true] HTH5.out (by kernel_rfl) underlying178 rfl)
     have HB9:=hid (Qb HB5.out w.heap.size (le_refl _) [.int .i64 2,.int .i64 k,.int .i64 ((k:Int)+2+(d:Int)),.bool true] 0);obtain⟨⟨z0,hz0⟩,hf0⟩:=Q2 HTH5.out 0 (by decide)
     obtain⟨⟨z1,hz1⟩,hf1⟩:=Q2 HTH5.out 1 (by decide)
     obtain⟨⟨z2,hz2⟩,hf2⟩:=Q2 HTH5.out 2 (by decide)
     obtain⟨⟨z3,hz3⟩,hf3⟩:=Q2 HTH5.out 3 (by decide)
     go_wp2
     refine bodyPost_ret (Qg rfl _ rfl HL9.out) rfl ?_;rw[HV.out];exact⟨rfl,HB9.out⟩
    |false =>
     have HV:Hid (Q1t (Q4q l k) k=.agg #[.int .i64 11,.int .i64 k,.int .i64 ((k:Int)+1),.bool false]):=by rw[Hid,HREF.out];simp[Q1t]
     have HL9:=hid (Qk (P:=prog) (T:=178) w5 w.heap.size [.int .i64 11,.int .i64 k,.int .i64 ((k:Int)+1),.bool false] HTH5.out (by kernel_rfl) underlying178 rfl)
     have HB9:=hid (Qb HB5.out w.heap.size (le_refl _) [.int .i64 11,.int .i64 k,.int .i64 ((k:Int)+1),.bool false] 0);obtain⟨⟨z0,hz0⟩,hf0⟩:=Q2 HTH5.out 0 (by decide)
     obtain⟨⟨z1,hz1⟩,hf1⟩:=Q2 HTH5.out 1 (by decide)
     obtain⟨⟨z2,hz2⟩,hf2⟩:=Q2 HTH5.out 2 (by decide)
     obtain⟨⟨z3,hz3⟩,hf3⟩:=Q2 HTH5.out 3 (by decide)
     go_wp2
     refine bodyPost_ret (Qg rfl _ rfl HL9.out) rfl ?_;rw[HV.out];exact⟨rfl,HB9.out⟩
 |false =>
  go_wp2_with fail
  refine(HS2 _ HB4.out).out.mono ?_;rintro e w5 ⟨rfl,hb5⟩;have HB5:=hid (HB4.out.trans (hb5.mono HB4.out.size));have HTH5:=hid (Qr HTH4.out hb5 HLT.out);clear hb5;cases s2 with
  |true =>
   go_wp2_with fail
   refine(HE2 _ HB5.out).out.mono ?_;rintro e wx ⟨rfl,rfl⟩;cases e2 with
   |true =>
    have HV:Hid (Q1t (Q4q l k) k=.agg #[.int .i64 3,.int .i64 k,.int .i64 ((k:Int)+3+(nd:Int)),.bool true]):=by rw[Hid,HREF.out];simp[Q1t]
    have HL9:=hid (Qk (P:=prog) (T:=178) w5 w.heap.size [.int .i64 3,.int .i64 k,.int .i64 ((k:Int)+3+(nd:Int)),.bool true] HTH5.out (by kernel_rfl) underlying178 rfl)
    have HB9:=hid (Qb HB5.out w.heap.size (le_refl _) [.int .i64 3,.int .i64 k,.int .i64 ((k:Int)+3+(nd:Int)),.bool true] 0);obtain⟨⟨z0,hz0⟩,hf0⟩:=Q2 HTH5.out 0 (by decide)
    obtain⟨⟨z1,hz1⟩,hf1⟩:=Q2 HTH5.out 1 (by decide)
    obtain⟨⟨z2,hz2⟩,hf2⟩:=Q2 HTH5.out 2 (by decide)
    obtain⟨⟨z3,hz3⟩,hf3⟩:=Q2 HTH5.out 3 (by decide)
    go_wp2
    refine bodyPost_ret (Qg rfl _ rfl HL9.out) rfl ?_;rw[HV.out];exact⟨rfl,HB9.out⟩
   |false =>
    go_wp2_with fail
    refine(HE3 _ HB5.out).out.mono ?_;rintro e wx ⟨rfl,rfl⟩;cases e3 with
    |true =>
     have HV:Hid (Q1t (Q4q l k) k=.agg #[.int .i64 2,.int .i64 k,.int .i64 ((k:Int)+2+(d:Int)),.bool true]):=by rw[Hid,HREF.out];simp[Q1t]
     have HL9:=hid (Qk (P:=prog) (T:=178) w5 w.heap.size [.int .i64 2,.int .i64 k,.int .i64 ((k:Int)+2+(d:Int)),.bool true] HTH5.out (by kernel_rfl) underlying178 rfl)
     have HB9:=hid (Qb HB5.out w.heap.size (le_refl _) [.int .i64 2,.int .i64 k,.int .i64 ((k:Int)+2+(d:Int)),.bool true] 0);obtain⟨⟨z0,hz0⟩,hf0⟩:=Q2 HTH5.out 0 (by decide)
     obtain⟨⟨z1,hz1⟩,hf1⟩:=Q2 HTH5.out 1 (by decide)
     obtain⟨⟨z2,hz2⟩,hf2⟩:=Q2 HTH5.out 2 (by decide)
     obtain⟨⟨z3,hz3⟩,hf3⟩:=Q2 HTH5.out 3 (by decide)
     go_wp2
     refine bodyPost_ret (Qg rfl _ rfl HL9.out) rfl ?_;rw[HV.out];exact⟨rfl,HB9.out⟩
    |false =>
     have HV:Hid (Q1t (Q4q l k) k=.agg #[.int .i64 11,.int .i64 k,.int .i64 ((k:Int)+1),.bool false]):=by rw[Hid,HREF.out];simp[Q1t]
     have HL9:=hid (Qk (P:=prog) (T:=178) w5 w.heap.size [.int .i64 11,.int .i64 k,.int .i64 ((k:Int)+1),.bool false] HTH5.out (by kernel_rfl) underlying178 rfl)
     have HB9:=hid (Qb HB5.out w.heap.size (le_refl _) [.int .i64 11,.int .i64 k,.int .i64 ((k:Int)+1),.bool false] 0);obtain⟨⟨z0,hz0⟩,hf0⟩:=Q2 HTH5.out 0 (by decide)
     obtain⟨⟨z1,hz1⟩,hf1⟩:=Q2 HTH5.out 1 (by decide)
     obtain⟨⟨z2,hz2⟩,hf2⟩:=Q2 HTH5.out 2 (by decide)
     obtain⟨⟨z3,hz3⟩,hf3⟩:=Q2 HTH5.out 3 (by decide)
     go_wp2
     refine bodyPost_ret (Qg rfl _ rfl HL9.out) rfl ?_;rw[HV.out];exact⟨rfl,HB9.out⟩
  |false =>
   go_wp2_with fail
   refine(HE3 _ HB5.out).out.mono ?_;rintro e wx ⟨rfl,rfl⟩;cases e3 with
   |true =>
    have HV:Hid (Q1t (Q4q l k) k=.agg #[.int .i64 2,.int .i64 k,.int .i64 ((k:Int)+2+(d:Int)),.bool true]):=by rw[Hid,HREF.out];simp[Q1t]
    have HL9:=hid (Qk (P:=prog) (T:=178) w5 w.heap.size [.int .i64 2,.int .i64 k,.int .i64 ((k:Int)+2+(d:Int)),.bool true] HTH5.out (by kernel_rfl) underlying178 rfl)
    have HB9:=hid (Qb HB5.out w.heap.size (le_refl _) [.int .i64 2,.int .i64 k,.int .i64 ((k:Int)+2+(d:Int)),.bool true] 0);obtain⟨⟨z0,hz0⟩,hf0⟩:=Q2 HTH5.out 0 (by decide)
    obtain⟨⟨z1,hz1⟩,hf1⟩:=Q2 HTH5.out 1 (by decide)
    obtain⟨⟨z2,hz2⟩,hf2⟩:=Q2 HTH5.out 2 (by decide)
    obtain⟨⟨z3,hz3⟩,hf3⟩:=Q2 HTH5.out 3 (by decide)
    go_wp2
    refine bodyPost_ret (Qg rfl _ rfl HL9.out) rfl ?_;rw[HV.out];exact⟨rfl,HB9.out⟩
   |false =>
    have HV:Hid (Q1t (Q4q l k) k=.agg #[.int .i64 11,.int .i64 k,.int .i64 ((k:Int)+1),.bool false]):=by rw[Hid,HREF.out];simp[Q1t]
    have HL9:=hid (Qk (P:=prog) (T:=178) w5 w.heap.size [.int .i64 11,.int .i64 k,.int .i64 ((k:Int)+1),.bool false] HTH5.out (by kernel_rfl) underlying178 rfl)
    have HB9:=hid (Qb HB5.out w.heap.size (le_refl _) [.int .i64 11,.int .i64 k,.int .i64 ((k:Int)+1),.bool false] 0);obtain⟨⟨z0,hz0⟩,hf0⟩:=Q2 HTH5.out 0 (by decide)
    obtain⟨⟨z1,hz1⟩,hf1⟩:=Q2 HTH5.out 1 (by decide)
    obtain⟨⟨z2,hz2⟩,hf2⟩:=Q2 HTH5.out 2 (by decide)
    obtain⟨⟨z3,hz3⟩,hf3⟩:=Q2 HTH5.out 3 (by decide)
    go_wp2
    refine bodyPost_ret (Qg rfl _ rfl HL9.out) rfl ?_;rw[HV.out];exact⟨rfl,HB9.out⟩
def Q4V(r:Int):Bool:=r == 34||r == 39
def Q3q(l:List Int)(q:Int)(k:Nat):Nat×Bool:=if h:k<l.length then(if l[k]=q then(k+1,true)else Q3q l q (k+1))else(l.length,false)
termination_by l.length-k
theorem Q9G(l:List Int)(q:Int)(k:Nat)(h:k<l.length)(hq:l[k]=q):Q3q l q k=(k+1,true):=by rw[Q3q,dif_pos h,if_pos hq]
theorem Q8m(l:List Int)(q:Int)(k:Nat)(h:k<l.length)(hq:l[k]≠q):Q3q l q k=Q3q l q (k+1):=by rw[Q3q,dif_pos h,if_neg hq]
theorem Q5S(l:List Int)(q:Int)(k:Nat)(h:¬k<l.length):Q3q l q k=(l.length,false):=by rw[Q3q,dif_neg h]
theorem Qfn(l:List Int)(q:Int):∀(n k:Nat),l.length-k<=n->k<=l.length->k<=(Q3q l q k).1/\(Q3q l q k).1<=l.length/\(k<l.length->k<(Q3q l q k).1\/(Q3q l q k).1=l.length):=by
 intro n;induction n with
 |zero =>
  intro k h hk;rw[Q5S l q k (by omega)]
  simp only;omega
 |succ n ih =>
  intro k h hk;by_cases hlt:k<l.length
  ·by_cases hq:l[k]=q
   ·rw[Q9G l q k hlt hq];simp only;omega
   ·rw[Q8m l q k hlt hq]
    have:=ih (k+1) (by omega) (by omega)
    omega
  ·rw[Q5S l q k hlt];simp only;omega
def QS(l:List Int)(k:Nat):Nat×Bool:=Q3q l (l.getD k 0) (k+1)
theorem Q3p(l:List Int)(k:Nat)(h:k<l.length):k<(QS l k).1/\(QS l k).1<=l.length:=by
 have:=Qfn l (l.getD k 0) l.length (k+1) (by omega) (by omega)
 unfold QS;omega
def QD(l:List Int)(stops:Bool)(k:Nat):Nat×Bool :=
 if h:k<l.length then
  (if Q4V l[k]then QD l stops (QS l k).1 else if l[k]=62 then(k,true)else if l[k]=60/\stops=true then(k,false)else QD l stops (k+1))
 else(l.length,false)
termination_by l.length-k
decreasing_by
 ·have:=Q3p l k (by assumption);omega
 ·omega
theorem Q70(l:List Int)(s:Bool)(k:Nat)(h:¬k<l.length):QD l s k=(l.length,false):=by rw[QD,dif_neg h]
theorem Q95(l:List Int)(s:Bool)(k:Nat)(h:k<l.length)(hq:Q4V l[k]=true):QD l s k=QD l s (QS l k).1:=by
 conv=>lhs;rw[QD]
 rw[dif_pos h,if_pos hq]
theorem QaO(l:List Int)(s:Bool)(k:Nat)(h:k<l.length)(hq:l[k]=62):QD l s k=(k,true):=by
 rw[QD,dif_pos h,if_neg (by rw[hq];decide),if_pos hq]
theorem Qbr(l:List Int)(k:Nat)(h:k<l.length)(hq:l[k]=60):QD l true k=(k,false):=by
 rw[QD,dif_pos h,if_neg (by rw[hq];decide),if_neg (by rw[hq];decide),if_pos ⟨hq,rfl⟩]
theorem Q8J(l:List Int)(s:Bool)(k:Nat)(h:k<l.length)(h1:Q4V l[k]=false)(h2:l[k]≠62)(h3:¬(l[k]=60/\s=true)):QD l s k=QD l s (k+1):=by
 conv=>lhs;rw[QD]
 rw[dif_pos h,if_neg (by simp[h1]),if_neg h2,if_neg h3]
theorem Q3V(l:List Int)(s:Bool):∀(n k:Nat),l.length-k<=n->k<=l.length->k<=(QD l s k).1/\(QD l s k).1<=l.length/\((QD l s k).2=true->(QD l s k).1<l.length):=by
 intro n;induction n with
 |zero =>
  intro k h hk;rw[Q70 l s k (by omega)]
  simp;omega
 |succ n ih =>
  intro k h hk;by_cases hlt:k<l.length
  ·cases hq:Q4V l[k]with
   |true =>
    have:=Q3p l k hlt
    have:=ih (QS l k).1 (by omega) (by omega)
    rw[Q95 l s k hlt hq];exact⟨by omega,by omega,this.2.2⟩
   |false =>
    by_cases h2:l[k]=62
    ·rw[QaO l s k hlt h2];simp;omega
    ·by_cases h3:l[k]=60/\s=true
     ·obtain⟨h3,rfl⟩:=h3
      rw[Qbr l k hlt h3];simp;omega
     ·have:=ih (k+1) (by omega) (by omega)
      rw[Q8J l s k hlt hq h2 h3];exact⟨by omega,by omega,this.2.2⟩
  ·rw[Q70 l s k hlt]
   simp;omega
theorem Q9D(r:Int)(w:World):Calls prog 213 #[.int .i32 r] w fun e w'=>e=.returned (.bool (Q4V r))/\w=w':=by
 by_cases h:r=34
 ·subst h
  go_enter func213,ntmps213
  go_wp2
  go_ret
  exact⟨rfl,rfl⟩
 ·have hb:(r == 34)=false:=by simpa using h
  have HE:Hid (Q4V r=(r == 39)):=by rw[Hid,Q4V,hb,Bool.false_or]
  clear h;go_enter func213,ntmps213
  go_wp2
  go_ret
  exact⟨Qw HE.out.symm,rfl⟩
theorem Qa2(S:Nat->Prop)(A:Option Addr)(n c:Nat)(l:List Int)(k:Nat)(w:World)(hr:Rd w S 1 A n c (rc l))(hk:k<l.length)(hl9:l.length<=1000000000) :
  Calls prog 214 #[.slice A n c,.int .i64 k] w fun e w'=>e=.returned (.tuple #[.int .i64 (QS l k).1,.bool (QS l k).2])/\Below w.heap.size w w':=by
 obtain rfl:=hr.rlen;have hle:=hr.le;have hmx:c<=9223372036854775807:=hr.max;have HR:=hid hr;have hki:(k:Int)<(l.length:Int):=by omega
 have HT:Hid (QS l k=Q3q l l[k] (k+1)):=by rw[Hid,QS,Q7H hk]
 have HQ:=fun W (h:Below w.heap.size w W)=>hid ((HR.out.below h).rune hk)
 clear hr;generalize QS l k=t at HT ⊢;generalize l[k]=q at HT HQ;go_enter func214,ntmps214
 go_wp2
 go_loopw [6] (fun i wr=>∃j:Nat,k+1<=j/\j<=l.length/\i=.int .i64 j/\Hid (t=Q3q l q j)/\Hid (Below w.heap.size w wr)) (fun i _=>l.length-(intOf i).toNat)
 case atStart=>exact⟨k+1,le_refl _,by omega,by go_num,HT.out,Below.refl _ _⟩
 case round =>
  obtain⟨j,hj1,hj2,rfl,HJ,HB⟩:=hrel;by_cases hlt:j<l.length
  ·have hji:(j:Int)<(l.length:Int):=by omega
   obtain⟨b,o,rfl,hc0⟩:=(HR.out.below HB.out).rune hlt;obtain⟨b',o',hA,hc1⟩:=(HQ _ HB.out).out;injection hA with hA
   injection hA with e1 e2
   subst e1 e2;have HH:=hid (Q9G l q j hlt);have HM:=hid (Q8m l q j hlt);generalize l[j]=r at hc0 HH HM;by_cases hq:r=q
   ·have HE:=hid (HJ.out.trans (HH.out hq))
    have hb:(r == q)=true:=by simpa using hq
    clear HH HM HJ hq;go_wp2
    go_quiet (fail)
    go_wp2
    go_ret2
    rw[HE.out];exact⟨rfl,QV HB.out _⟩
   ·have HE:=hid (HJ.out.trans (HM.out hq))
    have hb:(r == q)=false:=by simpa using hq
    clear HH HM HJ hq;go_wp2
    go_quiet (fail)
    go_wp2
    go_roundw
    case rel=>exact⟨j+1,by omega,by omega,by go_num,HE.out,QV HB.out _⟩
    case measure=>simp[intOf];omega
  ·have hji:¬(j:Int)<(l.length:Int):=by omega
   have HE:=hid (HJ.out.trans (Q5S l q j hlt));clear HJ;go_wp2
   go_ret2
   rw[HE.out];exact⟨rfl,HB.out⟩
theorem Qbx(S:Nat->Prop)(A:Option Addr)(n c:Nat)(l:List Int)(k:Nat)(s:Bool)(w:World)(hr:Rd w S 1 A n c (rc l))(hk:k<=l.length)(hl9:l.length<=1000000000) :
  Calls prog 216 #[.slice A n c,.int .i64 k,.bool s] w fun e w'=>e=.returned (.tuple #[.int .i64 (QD l s k).1,.bool (QD l s k).2])/\Below w.heap.size w w':=by
 obtain rfl:=hr.rlen;have hle:=hr.le;have hmx:c<=9223372036854775807:=hr.max;have HR:=hid hr;clear hr;obtain⟨t,ht⟩:∃t,t=QD l s k:=⟨_,rfl⟩;rw[<-ht];have HT:=hid ht;clear ht;go_enter func216,ntmps216
 go_wp2
 go_loopw [1] (fun i wr=>∃j:Nat,j<=l.length/\i=.int .i64 j/\Hid (t=QD l s j)/\Hid (Below w.heap.size w wr)) (fun i _=>l.length-(intOf i).toNat)
 case atStart=>exact⟨k,hk,rfl,HT.out,Below.refl _ _⟩
 case round =>
  obtain⟨j,hj,rfl,HJ,HB⟩:=hrel;by_cases hlt:j<l.length
  ·have hji:(j:Int)<(l.length:Int):=by omega
   obtain⟨b,o,rfl,hc0⟩:=(HR.out.below HB.out).rune hlt;have HQT:=hid (Q9D l[j]);have HQD:=hid (Qa2 S _ l.length c l j _ (HR.out.below HB.out) hlt hl9);obtain⟨hg1,hg2⟩:=Q3p l j hlt;have H1:=hid (Q95 l s j hlt);have H2:=hid (QaO l s j hlt);have H4:=hid (Q8J l s j hlt);have H3:=hid (show s=true->l[j]=60->QD l s j=(j,false) from fun h h2=>by subst h;exact Qbr l j hlt h2)
   generalize l[j]=r at hc0 HQT H1 H2 H3 H4;cases hq:Q4V r with
   |true =>
    have HE:=hid (HJ.out.trans (H1.out hq));have HQT2:=fun W=>hid (HQT.out W)
    rw[hq]at HQT2;clear H1 H2 H3 H4 HJ hq HQT;generalize (QS l j).1=nx at HE HQD hg1 hg2;generalize (QS l j).2=nb at HQD;go_wp2_with fail
    refine(HQT2 _).out.mono ?_;rintro e wx ⟨rfl,rfl⟩;go_wp2_with fail
    refine HQD.out.mono ?_;rintro e w2 ⟨rfl,hb2⟩;have HB2:=hid (HB.out.trans (hb2.mono HB.out.size));clear hb2;go_wp2
    go_roundw
    case rel=>exact⟨nx,by omega,rfl,HE.out,HB2.out⟩
    case measure=>simp[intOf];omega
   |false =>
    have HQT2:=fun W=>hid (HQT.out W)
    rw[hq]at HQT2;clear HQD hg1 hg2 HQT;by_cases h62:r=62
    ·have HE:=hid (HJ.out.trans (H2.out h62))
     subst h62;clear H1 H2 H3 H4 HJ hq;go_wp2_with fail
     refine(HQT2 _).out.mono ?_;rintro e wx ⟨rfl,rfl⟩;go_wp2
     go_ret2
     rw[HE.out];exact⟨rfl,HB.out⟩
    ·have h62b:(r == 62)=false:=by simpa using h62
     by_cases h60:r=60
     ·subst h60
      cases s with
      |true =>
       have HE:=hid (HJ.out.trans (H3.out rfl rfl));clear H1 H2 H3 H4 HJ hq h62;go_wp2_with fail
       refine(HQT2 _).out.mono ?_;rintro e wx ⟨rfl,rfl⟩;go_wp2
       go_ret2
       rw[HE.out];exact⟨rfl,HB.out⟩
      |false =>
       have HE:=hid (HJ.out.trans (H4.out hq h62 (by simp)))
       clear H1 H2 H3 H4 HJ hq h62;go_wp2_with fail
       refine(HQT2 _).out.mono ?_;rintro e wx ⟨rfl,rfl⟩;go_wp2
       go_roundw
       case rel=>exact⟨j+1,by omega,by go_num,HE.out,HB.out⟩
       case measure=>simp[intOf];omega
     ·have h60b:(r == 60)=false:=by simpa using h60
      have HE:=hid (HJ.out.trans (H4.out hq h62 (fun h=>h60 h.1)))
      clear H1 H2 H3 H4 HJ hq h62 h60;go_wp2_with fail
      refine(HQT2 _).out.mono ?_;rintro e wx ⟨rfl,rfl⟩;go_wp2
      go_roundw
      case rel=>exact⟨j+1,by omega,by go_num,HE.out,HB.out⟩
      case measure=>simp[intOf];omega
  ·have hji:¬(j:Int)<(l.length:Int):=by omega
   have HE:=hid (HJ.out.trans (Q70 l s j hlt));clear HJ;go_wp2
   go_ret2
   rw[HE.out];exact⟨rfl,HB.out⟩
