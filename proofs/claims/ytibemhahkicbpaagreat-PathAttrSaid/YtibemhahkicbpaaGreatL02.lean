/- Lemmas, conditions told -/
import Derived.Test.YtibemhahkicbpaaGreatL01
import Derived.Lib.AppendStr
import Derived.Deep.MidRow
set_option maxRecDepth 99999
set_option maxHeartbeats 0
set_option linter.unusedSimpArgs false
set_option linter.unusedVariables false
namespace Go.Proofs.YtibemhahkicbpaaGreat
open List(mem_range'_1 map_cons map_nil length_drop)
open Lib(hid)
open Nat(zero_le le_refl lt_of_lt_of_le)
open Go.RowKit Go.Lib
section
open Tryz
def Q6(l:List Int)(k:Nat)(bs:List UInt8):Bool:=bs.all (fun b=>decide (b.toNat<128))&&((l.drop k).take bs.length == bi bs)
theorem Q9f(l:List Int)(k:Nat)(bs:List UInt8)(hl:k+bs.length<=l.length)
  (h:∀i (h:i<bs.length),bs[i].toNat<128/\l[k+i]'(by omega)=bs[i].toNat):Q6 l k bs=true:=by
 rw[Q6,Bool.and_eq_true];refine⟨List.all_eq_true.2 fun b hb=>?_,?_⟩
 ·obtain⟨i,hi,rfl⟩:=List.getElem_of_mem hb
  exact decide_eq_true (h i hi).1
 ·rw[beq_iff_eq]
  apply List.ext_getElem
  ·simp[bi];omega
  ·intro i h1 h2
   rw[List.getElem_take,List.getElem_drop];have hi:i<bs.length:=by simpa[bi]using h2
   rw[(h i hi).2];simp[bi]
theorem Q9b(l:List Int)(k:Nat)(bs:List UInt8)(i:Nat)(hi:i<bs.length)(hl:k+i<l.length)(h:¬(bs[i].toNat<128/\l[k+i]=bs[i].toNat)):Q6 l k bs=false:=by
 cases hs:Q6 l k bs with
 |false=>rfl
 |true =>
  exfalso;rw[Q6,Bool.and_eq_true,beq_iff_eq]at hs;obtain⟨h1,h2⟩:=hs;refine h ⟨of_decide_eq_true (List.all_eq_true.1 h1 _ (List.getElem_mem hi)),?_⟩;have h3:=congrArg (fun x=>x[i]?) h2
  simp only[List.getElem?_take,List.getElem?_drop,hi,if_true,bi,List.getElem?_map,List.getElem?_eq_getElem hi,List.getElem?_eq_getElem hl,Option.map_some,Option.some.injEq]at h3;exact h3
theorem Q66(l:List Int)(k:Nat)(bs:List UInt8)(h:l.length<k+bs.length)(hk:k<=l.length):Q6 l k bs=false:=by
 cases hs:Q6 l k bs with
 |false=>rfl
 |true =>
  exfalso;rw[Q6,Bool.and_eq_true,beq_iff_eq]at hs;have:=congrArg List.length hs.2
  simp[bi]at this;omega
theorem Q24(S:Nat->Prop)(A:Option Addr)(n c:Nat)(l:List Int)(k:Nat)(s:ByteArray)(w:World)(hr:Rd w S 1 A n c (rc l))(hk:k<=l.length)(hk9:l.length<=1000000000)(hs9:s.size<=1000000000) :
  Calls prog 185 #[.slice A n c,.int .i64 k,.string s] w fun e w'=>e=.returned (.bool (Q6 l k s.data.toList))/\Below w.heap.size w w':=by
 obtain rfl:=hr.rlen;have hle:=hr.le;have hmx:c<=9223372036854775807:=hr.max;have HR:=hid hr;clear hr;have hsz:s.data.toList.length=s.size:=by simp
 have hkl:¬(k:Int) > (l.length:Int):=by omega
 by_cases hshort:l.length<k+s.size
 ·have HE:=hid (Q66 l k s.data.toList (by omega) hk)
  have hsh:(l.length:Int)-(k:Int)<(s.size:Int):=by omega
  go_enter func185,ntmps185
  go_wp2
  go_ret
  exact⟨QR HE.out.symm,Below.refl _ _⟩
 ·have hsh:¬(l.length:Int)-(k:Int)<(s.size:Int):=by omega
  go_enter func185,ntmps185
  go_wp2
  go_loopw [27] (fun i wr=>∃j:Nat,j<=s.size/\i=.int .i64 j/\Hid (Below w.heap.size w wr)/\Hid (∀i,i<j->(h1:i<s.data.toList.length)->(h2:k+i<l.length)->s.data.toList[i].toNat<128/\l[k+i]=s.data.toList[i].toNat)) (fun i _=>s.size-(intOf i).toNat)
  case atStart=>exact⟨0,zero_le _,rfl,Below.refl _ _,fun i h=>absurd h (by omega)⟩
  case round =>
   obtain⟨j,hj,rfl,HB,HJ⟩:=hrel;by_cases hlt:j<s.size
   ·have hlt2:j<s.data.toList.length:=by omega
    have hlt3:j<s.data.size:=hlt;have hkj:k+j<l.length:=by omega
    have hkj':(k:Int)+(j:Int)<(l.length:Int):=by omega
    obtain⟨b,o,rfl,hc0⟩:=(HR.out.below HB.out).rune hkj;have hx:s.data.toList[j]=s.data[j]:=by simp
    have hb:=(s.data[j]).toNat_lt
    have hw:wrap32 ((s[j]).toNat:Int)=((s.data[j]).toNat:Int):=by
     show wrap32 ((s.data[j]).toNat:Int)=_;rw[<-IntWalk.i32_left];exact IntWalk.i32_in _ (by omega)
    have HM:=hid (Q9b l k s.data.toList j hlt2 hkj);have HX:=hid hx;rw[hx]at HM
    have HJ2:(s.data[j]).toNat<128->l[k+j]=(s.data[j]).toNat->Hid (∀i,i<j+1->(h1:i<s.data.toList.length)->(h2:k+i<l.length)->s.data.toList[i].toNat<128/\l[k+i]=s.data.toList[i].toNat):=fun e1 e2 i hi h1 h2=>by
     by_cases e:i=j
     ·subst e;rw[HX.out];exact⟨e1,e2⟩
     ·exact HJ.out i (by omega) h1 h2
    clear hx;generalize l[k+j]=r at hc0 HM HJ2;by_cases h128:(s.data[j]).toNat<128
    ·have hge:¬((s.data[j]).toNat:Int) ≥ 128:=by omega
     have hge3:decide ((128:Int)<=((s[j]).toNat:Int))=false:=by show decide ((128:Int)<=((s.data[j]).toNat:Int))=false;rw[decide_eq_false_iff_not];omega
     by_cases hrb:r=(s.data[j]).toNat
     ·have HJ3:=HJ2 h128 hrb
      have hn:(r != ((s.data[j]).toNat:Int))=false:=by simpa using hrb
      clear HJ2 HM;go_wp2
      go_quiet (fail)
      go_wp2
      go_roundw
      case rel=>exact⟨j+1,by omega,by go_num,Q1F HB.out _,HJ3.out⟩
      case measure=>simp[intOf];omega
     ·have HE:Hid (Q6 l k s.data.toList=false):=HM.out fun h=>hrb h.2
      have hn:(r != ((s.data[j]).toNat:Int))=true:=by simpa using hrb
      clear HJ2 HM;go_wp2
      go_quiet (fail)
      go_wp2
      go_ret
      exact⟨QR HE.out.symm,Q1F HB.out _⟩
    ·have hge:((s.data[j]).toNat:Int) ≥ 128:=by omega
     have hge3:decide ((128:Int)<=((s[j]).toNat:Int))=true:=by show decide ((128:Int)<=((s.data[j]).toNat:Int))=true;rw[decide_eq_true_iff];omega
     have HE:Hid (Q6 l k s.data.toList=false):=HM.out fun h=>h128 h.1
     clear HJ2 HM;go_wp2
     go_quiet (fail)
     go_wp2
     go_ret
     exact⟨QR HE.out.symm,Q1F HB.out _⟩
   ·have HE:Hid (Q6 l k s.data.toList=true):=Q9f l k _ (by omega) fun i h=>HJ.out i (by omega) h (by omega)
    go_wp2
    go_ret
    exact⟨QR HE.out.symm,HB.out⟩
def Q3Z(l:List Int)(k t:Nat)(bs:List UInt8):Option Nat:=(List.range' k (t+1-bs.length-k)).find? (fun i=>Q6 l i bs)
theorem Qc7(l:List Int)(k t:Nat)(bs:List UInt8)(j:Nat)(hk:k<=j)(ht:j+bs.length<=t)(h:∀i,k<=i->i<j->Q6 l i bs=false)(hj:Q6 l j bs=true):Q3Z l k t bs=some j:=by
 rw[Q3Z,List.find?_range'_eq_some];exact⟨hj,mem_range'_1.2 ⟨hk,by omega⟩,fun i h1 h2=>by rw[h i h1 h2];rfl⟩
theorem Qb0(l:List Int)(k t:Nat)(bs:List UInt8)(h:∀i,k<=i->i+bs.length<=t->Q6 l i bs=false):Q3Z l k t bs=none:=by
 rw[Q3Z,List.find?_eq_none];intro i hi;have:=mem_range'_1.1 hi
 rw[h i this.1 (by omega)]
 decide
theorem QhG(S:Nat->Prop)(A:Option Addr)(n c:Nat)(l:List Int)(k t:Nat)(s:ByteArray)(w:World)(hr:Rd w S 1 A n c (rc l))(hk:k<=l.length)(ht:t<=l.length)(hk9:l.length<=1000000000)(hs9:s.size<=1000000000) :
  Calls prog 224 #[.slice A n c,.int .i64 k,.int .i64 t,.string s] w fun e w'=>e=.returned (.tuple #[.int .i64 ((Q3Z l k t s.data.toList).getD 0),.bool (Q3Z l k t s.data.toList).isSome])/\Below w.heap.size w w':=by
 obtain rfl:=hr.rlen;have hle:=hr.le;have hmx:c<=9223372036854775807:=hr.max;have HR:=hid hr;clear hr;have hkl:¬(k:Int) > (l.length:Int):=by omega
 have htl:¬(t:Int) > (l.length:Int):=by omega
 have hsz:s.data.toList.length=s.size:=by simp
 have HS:=fun W (j:Nat) (hj:j<=l.length) (h:Below w.heap.size w W)=>hid (Q24 S A l.length c l j s W (HR.out.below h) hj hk9 hs9)
 have HH:=hid (Qc7 l k t s.data.toList);have HN:=hid (Qb0 l k t s.data.toList);generalize Q3Z l k t s.data.toList=q at HH HN ⊢;go_enter func224,ntmps224
 go_wp2
 go_loopw [10] (fun i wr=>∃j:Nat,k<=j/\j<=l.length+1/\i=.int .i64 j/\Hid (Below w.heap.size w wr)/\Hid (∀i,k<=i->i<j->Q6 l i s.data.toList=false)) (fun i _=>l.length+1-(intOf i).toNat)
 case atStart=>exact⟨k,le_refl _,by omega,rfl,Below.refl _ _,fun i h1 h2=>absurd h2 (by omega)⟩
 case round =>
  obtain⟨j,hj1,hj2,rfl,HB,HJ⟩:=hrel;by_cases hlt:j+s.size<=t
  ·have hlt2:(j:Int)<=(t:Int)-(s.size:Int):=by omega
   have HC:=HS _ j (by omega) HB.out
   cases hq:Q6 l j s.data.toList with
   |true =>
    rw[hq]at HC;have HE:Hid (q=some j):=HH.out j hj1 (by omega) HJ.out hq
    clear hq;go_wp2_with (go_at_call 185;refine HC.out.mono ?_;rintro e w' ⟨rfl,hb⟩);go_ret2
    rw[HE.out];exact⟨rfl,HB.out.trans (hb.mono HB.out.size)⟩
   |false =>
    rw[hq]at HC
    have HJ2:Hid (∀i,k<=i->i<j+1->Q6 l i s.data.toList=false):=fun i h1 h2=>by
     by_cases e:i=j
     ·subst e;exact hq
     ·exact HJ.out i h1 (by omega)
    clear hq;go_wp2_with (go_at_call 185;refine HC.out.mono ?_;rintro e w' ⟨rfl,hb⟩);go_roundw
    case rel=>exact⟨j+1,by omega,by omega,by go_num,HB.out.trans (hb.mono HB.out.size),HJ2.out⟩
    case measure=>simp[intOf];omega
  ·have hlt2:¬(j:Int)<=(t:Int)-(s.size:Int):=by omega
   have HE:Hid (q=none):=HN.out fun i h1 h2=>HJ.out i h1 (by omega)
   go_wp2
   go_ret2
   rw[HE.out];exact⟨rfl,HB.out⟩
def I32(l:List Int):Prop:=∀x∈l,-2147483648<=x/\x<=2147483647
theorem Qf0(S:Nat->Prop)(A:Option Addr)(n c:Nat)(l:List Int)(k:Nat)(s:ByteArray)(w:World)(hr:Rd w S 1 A n c (rc l))(hk:k<=l.length)(hk9:l.length<=1000000000)(hs9:s.size<=1000000000)(hi:I32 l) :
  Calls prog 151 #[.slice A n c,.int .i64 k,.string s] w fun e w'=>e=.returned (.bool (Q6 l k s.data.toList))/\Below w.heap.size w w':=by
 obtain rfl:=hr.rlen;have hle:=hr.le;have hmx:c<=9223372036854775807:=hr.max;have HR:=hid hr;have HI:=hid hi;clear hr hi;have hsz:s.data.toList.length=s.size:=by simp
 have hkl:¬(k:Int) > (l.length:Int):=by omega
 by_cases hshort:l.length<k+s.size
 ·have HE:=hid (Q66 l k s.data.toList (by omega) hk)
  have hsh:(s.size:Int) > (l.length:Int)-(k:Int):=by omega
  go_enter func151,ntmps151
  go_wp2
  go_ret
  exact⟨QR HE.out.symm,Below.refl _ _⟩
 ·have hsh:¬(s.size:Int) > (l.length:Int)-(k:Int):=by omega
  go_enter func151,ntmps151
  go_wp2
  go_loopw [7] (fun i wr=>∃j:Nat,j<=s.size/\i=.int .i64 j/\Hid (Below w.heap.size w wr)/\Hid (∀i,i<j->(h1:i<s.data.toList.length)->(h2:k+i<l.length)->s.data.toList[i].toNat<128/\l[k+i]=s.data.toList[i].toNat)) (fun i _=>s.size-(intOf i).toNat)
  case atStart=>exact⟨0,zero_le _,rfl,Below.refl _ _,fun i h=>absurd h (by omega)⟩
  case round =>
   obtain⟨j,hj,rfl,HB,HJ⟩:=hrel;by_cases hlt:j<s.size
   ·have hlt2:j<s.data.toList.length:=by omega
    have hlt3:j<s.data.size:=hlt;have hkj:k+j<l.length:=by omega
    have hkj':(k:Int)+(j:Int)<(l.length:Int):=by omega
    obtain⟨b,o,rfl,hc0⟩:=(HR.out.below HB.out).rune hkj;have hx:s.data.toList[j]=s.data[j]:=by simp
    have hb:=(s.data[j]).toNat_lt
    have hw:wrap64 ((s[j]).toNat:Int)=((s.data[j]).toNat:Int):=by
     show wrap64 ((s.data[j]).toNat:Int)=_;exact IntWalk.wrap64_in _ (by omega)
    have hri:=HI.out _ (List.getElem_mem hkj);have HM:=hid (Q9b l k s.data.toList j hlt2 hkj);have HX:=hid hx;rw[hx]at HM
    have HJ2:(s.data[j]).toNat<128->l[k+j]=(s.data[j]).toNat->Hid (∀i,i<j+1->(h1:i<s.data.toList.length)->(h2:k+i<l.length)->s.data.toList[i].toNat<128/\l[k+i]=s.data.toList[i].toNat):=fun e1 e2 i hi h1 h2=>by
     by_cases e:i=j
     ·subst e;rw[HX.out];exact⟨e1,e2⟩
     ·exact HJ.out i (by omega) h1 h2
    clear hx;generalize l[k+j]=r at hc0 HM HJ2 hri;by_cases h128:(s.data[j]).toNat<128
    ·have hge:¬((s.data[j]).toNat:Int) > 127:=by omega
     have hge3:decide ((127:Int)<((s[j]).toNat:Int))=false:=by show decide ((127:Int)<((s.data[j]).toNat:Int))=false;rw[decide_eq_false_iff_not];omega
     by_cases hrb:r=(s.data[j]).toNat
     ·have HJ3:=HJ2 h128 hrb
      have hn:(r != ((s.data[j]).toNat:Int))=false:=by simpa using hrb
      clear HJ2 HM;go_wp2
      go_quiet (fail)
      go_wp2
      go_roundw
      case rel=>exact⟨j+1,by omega,by go_num,Q1F HB.out _,HJ3.out⟩
      case measure=>simp[intOf];omega
     ·have HE:Hid (Q6 l k s.data.toList=false):=HM.out fun h=>hrb h.2
      have hn:(r != ((s.data[j]).toNat:Int))=true:=by simpa using hrb
      clear HJ2 HM;go_wp2
      go_quiet (fail)
      go_wp2
      go_ret
      exact⟨QR HE.out.symm,Q1F HB.out _⟩
    ·have hge:((s.data[j]).toNat:Int) > 127:=by omega
     have hge3:decide ((127:Int)<((s[j]).toNat:Int))=true:=by show decide ((127:Int)<((s.data[j]).toNat:Int))=true;rw[decide_eq_true_iff];omega
     have HE:Hid (Q6 l k s.data.toList=false):=HM.out fun h=>h128 h.1
     clear HJ2 HM;go_wp2
     go_quiet (fail)
     go_wp2
     go_ret
     exact⟨QR HE.out.symm,Q1F HB.out _⟩
   ·have HE:Hid (Q6 l k s.data.toList=true):=Q9f l k _ (by omega) fun i h=>HJ.out i (by omega) h (by omega)
    go_wp2
    go_ret
    exact⟨QR HE.out.symm,HB.out⟩
def Q10(l:List Int):List UInt8:=l.flatMap Q2I
theorem Qcy(r:Int)(h:0<Qr r):Qg8 r=encodeRune r:=by
 unfold Qr at h;split at h
 ·omega
 ·rename_i h1
  have hv:Utf8.valid r=true:=by simp[Utf8.valid];omega
  by_cases h2:r<128
  ·rw[Qgc r (by omega) h2,encodeRune,encodeRuneZ_one (by omega) (by omega)];rfl
  ·unfold Qg8 Utf8.encode
   simp only[hv,if_true];rw[if_neg (by omega)]
   by_cases h3:r<2048
   ·rw[if_pos (by omega),encodeRune,encodeRuneZ_two (by omega) (by omega)]
    simp only[map_cons,map_nil];rw[show((192+r / 64).toNat)=192+r.toNat / 64 by omega,show((128+r % 64).toNat)=128+r.toNat % 64 by omega]
   ·rw[if_neg (by omega)]
    by_cases h4:r<65536
    ·rw[if_pos (by omega),encodeRune,encodeRuneZ_three (by omega)]
     simp only[map_cons,map_nil];rw[show((224+r / 4096).toNat)=224+r.toNat / 4096 by omega,show((128+r / 64 % 64).toNat)=128+r.toNat / 64 % 64 by omega,show((128+r % 64).toNat)=128+r.toNat % 64 by omega]
    ·rw[if_neg (by omega),encodeRune,encodeRuneZ_four (by omega) (by omega)]
     simp only[map_cons,map_nil];rw[show((240+r / 262144).toNat)=240+r.toNat / 262144 by omega,show((128+r / 4096 % 64).toNat)=128+r.toNat / 4096 % 64 by omega,show((128+r / 64 % 64).toNat)=128+r.toNat / 64 % 64 by omega,show((128+r % 64).toNat)=128+r.toNat % 64 by omega]
theorem Qca(r:Int):(Q2I r).length<=4:=by
 unfold Q2I;split
 ·simp
 ·rw[Q47 r (by omega)];unfold Qr;repeat' split
  all_goals omega
theorem Qiq(r:Int)(h:0<Qr r):(Utf8.encode r).data.toList=Q2I r:=by rw[Q2I,if_neg (by omega)];exact Qcy r h
theorem Q7T(l:List Int):(Q10 l).length<=4 * l.length:=by
 induction l with
 |nil=>simp[Q10]
 |cons r t ih =>
  have:=Qca r
  simp only[Q10,List.flatMap_cons,List.length_append,List.length_cons]at ih ⊢;omega
theorem Qf7(l:List Int)(k:Nat)(h:k<l.length):Q10 (l.take (k+1))=Q10 (l.take k)++Q2I l[k]:=by
 rw[Q10,Q10,List.take_succ_eq_append_getElem h,List.flatMap_append];simp
theorem QnW:(prog.info? 5).map (fun i=>(i.zero,i.size,i.bytes))=some (some (.int .u8 0),1,1):=by kernel_rfl
theorem Qdp(w:World){ops:Array Oper}{rest:List Oper}{o:Oper}{a:Act}{Q:Exit->Act->World->Prop}(hgd:o.guard=none)(s x:Operand)
  (ho:o.op=.call { callee:=.builtin .append,args:=#[s,x],argTypes:=#[22,22] })
  (base:Nat) (v:Value) (n:Nat) (xs:List UInt8) (hs:a.eval s=v) (hown:w.ownsRow base 5 1 v n (bc xs))
  (S:Nat->Prop) (A:Option Addr) (m c:Nat) (ys:List UInt8) (hx:a.eval x=.slice A m c) (hr:Rd w S 1 A m c (bc ys))
  (hlen:n+m<=1000000000) (hbase:base<=w.heap.size)
  (h:∀A' c' w',w'.ownsRow base 5 1 (.slice A' (n+m) c') (n+m) (bc (xs++ys))->w.grownBy w' v.ownBlock ->
    c'<=9223372036854775807->wpList prog ops Q rest (a.put o.dst (.slice A' (n+m) c')) w') :
  wpList prog ops Q (o::rest) a w:=by
 obtain⟨i0,hi,hz0,hz1,hz2⟩:=info_parts QnW;refine Q3d w hgd s x 22 ho base 5 i0 _ 1 1 underlying22 hi hz0 hz1 hz2 rfl (by omega) v n (bc xs) hs hown S A m c (bc ys) hx hr (Qow ys) (by simp only[maxLen];omega) (by omega) hbase ?_
 intro v' w' h1 h2 h3;obtain⟨A',c',rfl,hr'⟩:=Q1C h1;exact h A' c' w' (by simpa[bc]using h1) h2 hr'.max
theorem Qgm(w:World){ops:Array Oper}{rest:List Oper}{o:Oper}{a:Act}{Q:Exit->Act->World->Prop}(hgd:o.guard=none)(s x:Operand)
  (ho:o.op=.call { callee:=.builtin .append,args:=#[s,x],argTypes:=#[22,9] })
  (base:Nat) (v:Value) (n:Nat) (xs:List UInt8) (hs:a.eval s=v) (hown:w.ownsRow base 5 1 v n (bc xs))
  (str:ByteArray) (hx:a.eval x=.string str) (hlen:n+str.size<=1000000000) (hbase:base<=w.heap.size)
  (h:∀A' c' w',w'.ownsRow base 5 1 (.slice A' (n+str.size) c') (n+str.size) (bc (xs++str.data.toList))->w.grownBy w' v.ownBlock ->
    c'<=9223372036854775807->wpList prog ops Q rest (a.put o.dst (.slice A' (n+str.size) c')) w') :
  wpList prog ops Q (o::rest) a w:=by
 obtain⟨i0,hi,hz0,hz1,hz2⟩:=info_parts QnW;refine wpList_append_own_string w hgd s x 22 9 ho base 5 i0 underlying22 underlying9 hi hz0 hz1 hz2 v n (bc xs) hs hown str hx (by simp only[maxLen];omega) (by omega) hbase ?_
 intro v' w' h1 h2 h3;obtain⟨A',c',rfl,hr'⟩:=Q1C h1;exact h A' c' w' (by simpa[bc,strCells]using h1) h2 hr'.max
theorem QaG{w:World}{base:Nat}{e:TypeId}{v:Value}{n:Nat}{xs:List UInt8}(h:w.ownsRow base e 1 v n (bc xs)):n=xs.length:=by have:=h.1;simpa using this.symm
theorem Qi5(S:Nat->Prop)(A:Option Addr)(n c:Nat)(l:List Int)(w:World)(hr:Rd w S 1 A n c (rc l))(hn9:l.length<=100000000) :
  Calls prog 105 #[.slice A n c] w fun e w'=>∃v,e=.returned v/\(∃n',w'.ownsRow w.heap.size 5 1 v n' (bc (Q10 l)))/\Below w.heap.size w w':=by
 obtain rfl:=hr.rlen;have hle:=hr.le;have hmx:c<=9223372036854775807:=hr.max;have HR:=hid hr;clear hr;go_enter func105,ntmps105
 go_wp2
 go_loopw [3,8] (fun v i wr=>∃(k:Nat),k<=l.length/\i=.int .i64 k/\Hid (∃n',wr.ownsRow w.heap.size 5 1 v n' (bc (Q10 (l.take k))))/\Hid (Below w.heap.size w wr))
  (fun _ i _=>l.length-(intOf i).toNat)
 case atStart=>exact⟨0,zero_le _,rfl,⟨0,World.ownsRow_nil w w.heap.size 5 1⟩,Below.refl _ _⟩
 case round =>
  obtain⟨k,hk,rfl,HO,HB⟩:=hrel;obtain⟨no,HO⟩:=HO.out;have hno:=QaG HO;have hno2:no<=400000000:=by have:=Q7T (l.take k);simp at this;omega
  clear hno;obtain⟨Ao,co,rfl,hro⟩:=Q1C HO;have hco2:co<=9223372036854775807:=hro.max;have HO:=hid HO;clear hro;by_cases hlt:k<l.length
  ·obtain⟨b,u,rfl,hc0⟩:=(HR.out.below HB.out).rune hlt
   have HST:=hid (Qf7 l k hlt);have HW:=fun w=>hid (Q8P l[k] w)
   have HE:=hid (Qiq l[k]);have hes:=Qca l[k];have HZ:=hid (fun(h:Qr l[k]=0)=>(by rw[Q2I,if_pos h]:Q2I l[k]=[]))
   generalize l[k]=r at hc0 HST HW HE hes HZ;by_cases h0:Qr r=0
   ·have hw0:¬((Qr r:Nat):Int) > 0:=by omega
    have HZ2:=hid (HZ.out h0);clear HZ HE h0;generalize Qr r=wd at HW hw0;go_wp2_with (go_at_call 145;refine(HW _).out.mono ?_;rintro e w' ⟨rfl,rfl⟩);go_roundw
    case rel=>exact⟨k+1,by omega,by go_num,⟨_,by rw[HST.out,HZ2.out,List.append_nil];exact HO.out⟩,HB.out⟩
    case measure=>simp[intOf];omega
   ·have hw0:((Qr r:Nat):Int) > 0:=by omega
    have HE2:=hid (HE.out (by omega))
    have hsz:(Utf8.encode r).size<=4:=by
     have e:(Utf8.encode r).data.toList.length=(Utf8.encode r).size:=by simp
     rw[<-e,HE2.out];exact hes
    clear HZ HE h0;generalize Qr r=wd at HW hw0
    go_wp2_with (first
     |(go_at_call 145;refine(HW _).out.mono ?_;rintro e w' ⟨rfl,rfl⟩)
     |(at_builtin
       refine Qgm _ rfl (.tmp 15) (.tmp 17) rfl w.heap.size _ _ _ rfl HO.out (Utf8.encode r) rfl (by omega) HB.out.size ?_
       intro A4 c4 w4 hown4 hg4 _;have hb4:=Q5O HB.out HB.out.size HO.out hg4;rw[HE2.out]at hown4;have HB4:=hid hb4;have HO4:=hid hown4;clear hown4 hg4 hb4))
    go_roundw
    case rel=>exact⟨k+1,by omega,by go_num,⟨_,by rw[HST.out];exact HO4.out⟩,HB4.out⟩
    case measure=>simp[intOf];omega
  ·have e:l.take k=l:=List.take_of_length_le (by omega)
   rw[e]at HO;go_wp2
   go_ret
   exact⟨_,rfl,⟨_,HO.out⟩,HB.out⟩
end
def Q6n(r:Int):Bool:=(Q5u r).2
def Q7w(r:Int):Bool:=(QaY r).2
def Q1y(l:List Int)(p n:Nat):Bool:=decide (0<n)&&(l[p+n]? == some 59)
def Q5o(l:List Int)(k:Nat):Nat:=((l.drop (k+2)).takeWhile Q6n).length
def Q62(l:List Int)(k:Nat):Nat:=((l.drop (k+3)).takeWhile Q7w).length
def Q1n(l:List Int)(k:Nat):Nat×Nat×Bool :=
 if Q6 l k [38,35,120]&&Q1y l (k+3) (Q62 l k)then(3,k+4+Q62 l k,true)
 else if Q6 l k [38,35]&&Q1y l (k+2) (Q5o l k)then(3,k+3+Q5o l k,true)
 else if Q1y l (k+1) (Qj l (k+1))then(2,k+2+Qj l (k+1),true)
 else(11,k+1,false)
theorem QfB(l:List Int)(k p:Nat):Qj l (k+p)=Qj (l.drop k) p:=by
 rw[Qj,Qj,List.getElem?_drop,List.drop_drop]
theorem QjE(l:List Int)(k:Nat):k<(Q1n l k).2.1:=by
 unfold Q1n;repeat' split
 all_goals (simp only;omega)
theorem Qao(l:List Int)(p n:Nat)(h:Q1y l p n=true):p+n<l.length:=by
 rw[Q1y,Bool.and_eq_true,beq_iff_eq]at h;exact(List.getElem?_eq_some_iff.1 h.2).1
theorem QnJ(l:List Int)(k:Nat)(hk:k<l.length):(Q1n l k).2.1<=l.length:=by
 unfold Q1n;split
 ·rename_i h
  have:=Qao _ _ _ (Bool.and_eq_true_iff.1 h).2
  simp only;omega
 ·split
  ·rename_i h
   have:=Qao _ _ _ (Bool.and_eq_true_iff.1 h).2
   simp only;omega
  ·split
   ·rename_i h
    have:=Qao _ _ _ h
    simp only;omega
   ·simp only;omega
section
open Tryz
theorem QK{w W:World}{b o n:Nat}(h:w.there b o n)(hb:Below w.heap.size w W)(hlt:b<w.heap.size):W.there b o n:=fun j hj=>by
 obtain⟨h1,h2⟩:=h j hj;refine⟨?_,?_⟩
 ·rw[World.cell?_of_block (hb.block _ hlt)];exact h1
 ·rw[World.frozen?_of_block (hb.block _ hlt)];exact h2
theorem Q2K(w:World)(cs:Array Value)(t:TypeId):(w.alloc (.cells cs t)).there w.heap.size 0 cs.size:=fun j hj=>by
 refine⟨?_,by simp⟩
 rw[World.cell?_alloc_at _ _ _ _ rfl];simp[hj]
theorem Qf{B:Nat}{w0 w:World}(h:Below B w0 w)(b:Nat)(hb:B<=b)(vs:List Value)(o:Nat):Below B w0 (w.setCells b o vs):=by
 induction vs generalizing o w with
 |nil=>exact h
 |cons v r ih=>exact ih (h.setCell hb _) (o+1)
theorem QF{P:Program}{T:TypeId}{d:TypeDesc}(W:World)(B:Nat)(vs:List Value)(ht:W.there B 0 vs.length)(hi:(P.info? T).map (·.size)=some vs.length)
  (hu:P.underlying T=some d) (hd:d.isRow=true):(loadVar T ⟨B,0,none⟩).run P (W.setCells B 0 vs)=.ok (.agg vs.toArray) (W.setCells B 0 vs) :=
 run_loadVar_mid (P:=P) (W.setCells B 0 vs) B 0 T vs d (World.rangeAt_setCells_same W B 0 vs ht) hu hd hi
theorem Q7{w:World}{b n:Nat}(h:w.there b 0 n)(i:Nat)(hi:i<n):(∃v,w.cell? ⟨b,i,none⟩=some v)/\w.frozen? ⟨b,i,none⟩=false:=by
 have:=h i hi
 rw[Nat.zero_add]at this;exact⟨Option.isSome_iff_exists.1 this.1,this.2⟩
theorem Qw{P:Program}{fn:Func}{t:Tmp}{T:TypeId}{a:Addr}{v:Value}{w:World}(h:fn.results=#[.cell t T])(tmps:Array Value)
  (ha:tmps.getD t undef=.pointer (some a)) (hl:(loadVar T a).run P w=.ok v w):(results fn tmps).run P w=.ok v w:=by
 have ha':tmps[t]?.getD undef=.pointer (some a):=by simpa using ha
 simp[results,h,ha',asAddr,hl]
theorem Q4e{P:Program}{fn:Func}{t u:Tmp}{T:TypeId}{a:Addr}{v:Value}{w:World}(h:fn.results=#[.cell t T,.tmp u])(tmps:Array Value)
  (ha:tmps.getD t undef=.pointer (some a)) (hl:(loadVar T a).run P w=.ok v w):(results fn tmps).run P w=.ok (.tuple #[v,tmps.getD u undef]) w:=by
 have ha':tmps[t]?.getD undef=.pointer (some a):=by simpa using ha
 simp[results,h,ha',asAddr,hl]
theorem Qgr(r:Int)(w:World):Calls prog 211 #[.int .i32 r] w fun e w'=>e=.returned (.bool (Q6n r))/\w=w':=by
 have HD:=hid (Qcr r w);generalize (Q5u r).1=d1 at HD;have HQ:Hid (Q6n r=(Q5u r).2):=rfl;generalize (Q5u r).2=d2 at HD HQ;go_enter func211,ntmps211
 go_wp2_with fail
 refine HD.out.mono ?_;rintro e w' ⟨rfl,rfl⟩;go_wp2
 go_ret
 exact⟨QR HQ.out.symm,rfl⟩
theorem QjK(r:Int)(w:World):Calls prog 212 #[.int .i32 r] w fun e w'=>e=.returned (.bool (Q7w r))/\w=w':=by
 have HD:=hid (QmW r w);generalize (QaY r).1=d1 at HD;have HQ:Hid (Q7w r=(QaY r).2):=rfl;generalize (QaY r).2=d2 at HD HQ;go_enter func212,ntmps212
 go_wp2_with fail
 refine HD.out.mono ?_;rintro e w' ⟨rfl,rfl⟩;go_wp2
 go_ret
 exact⟨QR HQ.out.symm,rfl⟩
theorem Qj3(w:World):Q7L prog 211 #[] Q6n w:=fun W r _=>(Qgr r W).mono fun _ _ ⟨h1,h2⟩=>⟨h1,h2 ▸ Below.refl _ _⟩
theorem Qnp(w:World):Q7L prog 212 #[] Q7w w:=fun W r _=>(QjK r W).mono fun _ _ ⟨h1,h2⟩=>⟨h1,h2 ▸ Below.refl _ _⟩
theorem QiV:∀args w,(callFunc 211 args).run prog w=.ok (.enter 211 args) w:=enters_of func211 (by kernel_rfl) rfl
theorem QmI:∀args w,(callFunc 212 args).run prog w=.ok (.enter 212 args) w:=enters_of func212 (by kernel_rfl) rfl
theorem Q8L(S:Nat->Prop)(A:Option Addr)(n c:Nat)(l:List Int)(p m:Nat)(w:World)(hr:Rd w S 1 A n c (rc l))(hp:p<=2000000000)(hm:m<=2000000000) :
  Calls prog 213 #[.slice A n c,.int .i64 p,.int .i64 m] w fun e w'=>e=.returned (.bool (Q1y l p m))/\w=w':=by
 obtain rfl:=hr.rlen;have hle:=hr.le;have hmx:c<=9223372036854775807:=hr.max;by_cases h0:0<m
 ·have h0i:(m:Int) > 0:=by omega
  by_cases hlt:p+m<l.length
  ·have hlti:(p:Int)+(m:Int)<(l.length:Int):=by omega
   obtain⟨b,o,rfl,hc0⟩:=hr.rune hlt
   have HE:Hid (Q1y l p m=(l[p+m] == 59)):=by
    rw[Hid,Q1y,decide_eq_true h0,List.getElem?_eq_getElem hlt,Bool.true_and];rfl
   clear hr;generalize l[p+m]=r at hc0 HE;generalize Q1y l p m=q at HE ⊢;go_enter func213,ntmps213
   go_wp2
   go_ret
   exact⟨QR HE.out.symm,rfl⟩
  ·have hlti:¬(p:Int)+(m:Int)<(l.length:Int):=by omega
   have HE:Hid (Q1y l p m=false):=by rw[Hid,Q1y,decide_eq_true h0,List.getElem?_eq_none (by omega)];rfl
   clear hr;go_enter func213,ntmps213
   go_wp2
   go_ret
   exact⟨QR HE.out.symm,rfl⟩
 ·have h0i:¬(m:Int) > 0:=by omega
  have HE:Hid (Q1y l p m=false):=by rw[Hid,Q1y,decide_eq_false h0];rfl
  clear hr;go_enter func213,ntmps213
  go_wp2
  go_ret
  exact⟨QR HE.out.symm,rfl⟩
def Q25(t:Nat×Nat×Bool)(k:Nat):Value:=.agg #[.int .i64 t.1,.int .i64 k,.int .i64 t.2.1,.bool t.2.2]
theorem QjC(p:Int->Bool)(l:List Int)(k j:Nat):Q2X p l ((min (k+j) l.length:Nat):Int)=((l.drop (k+j)).takeWhile p).length:=by
 rw[Q2X,if_neg (by omega),Int.toNat_natCast]
 by_cases h:k+j<=l.length
 ·rw[Nat.min_eq_left h]
 ·rw[Nat.min_eq_right (by omega),List.drop_eq_nil_of_le (le_refl _),List.drop_eq_nil_of_le (by omega)]
theorem QmC(S:Nat->Prop)(A:Option Addr)(n c:Nat)(l:List Int)(k:Nat)(w:World)(hr:Rd w S 1 A n c (rc l))(hk:k<l.length)(hl9:l.length<=1000000000) :
  Calls prog 175 #[.slice A n c,.int .i64 k] w fun e w'=>e=.returned (Q25 (Q1n l k) k)/\Below w.heap.size w w':=by
 obtain rfl:=hr.rlen;have hle:=hr.le;have hmx:c<=9223372036854775807:=hr.max;have HR:=hid hr
 have HRN:∀W,Below w.heap.size w W->Hid (Calls prog 176 #[.slice A l.length c,.int .i64 (min (k+2) l.length:Nat),.func (.func 211) #[] #[]] W fun e w'=>e=.returned (.int .i64 (Q5o l k))/\Below W.heap.size W w'):=fun W h=>by
  have:=Q8g S A l.length c l (min (k+2) l.length:Nat) 211 #[] Q6n W QiV (HR.out.below h) (Qj3 W)
  rwa [QjC]at this
 have HRX:∀W,Below w.heap.size w W->Hid (Calls prog 176 #[.slice A l.length c,.int .i64 (min (k+3) l.length:Nat),.func (.func 212) #[] #[]] W fun e w'=>e=.returned (.int .i64 (Q62 l k))/\Below W.heap.size W w'):=fun W h=>by
  have:=Q8g S A l.length c l (min (k+3) l.length:Nat) 212 #[] Q7w W QmI (HR.out.below h) (Qnp W)
  rwa [QjC]at this
 have hm2:∀ts t W,(Builtin.min_ ts t #[.int .i64 ((k:Int)+2),.int .i64 (l.length:Int)]).run prog W=.ok (.int .i64 (min (k+2) l.length:Nat)) W:=fun ts t W=>by
  rw[run_min_int2];congr 2
  split<;>omega
 have hm3:∀ts t W,(Builtin.min_ ts t #[.int .i64 ((k:Int)+3),.int .i64 (l.length:Int)]).run prog W=.ok (.int .i64 (min (k+3) l.length:Nat)) W:=fun ts t W=>by
  rw[run_min_int2];congr 2
  split<;>omega
 have HS1:∀W,Below w.heap.size w W->Hid (Calls prog 185 #[.slice A l.length c,.int .i64 k,.string ⟨#[38,35,120]⟩] W fun e w'=>e=.returned (.bool (Q6 l k [38,35,120]))/\Below W.heap.size W w') :=
  fun W h=>Q24 S A l.length c l k ⟨#[38,35,120]⟩ W (HR.out.below h) (by omega) hl9 (by decide)
 have HS2:∀W,Below w.heap.size w W->Hid (Calls prog 185 #[.slice A l.length c,.int .i64 k,.string ⟨#[38,35]⟩] W fun e w'=>e=.returned (.bool (Q6 l k [38,35]))/\Below W.heap.size W w') :=
  fun W h=>Q24 S A l.length c l k ⟨#[38,35]⟩ W (HR.out.below h) (by omega) hl9 (by decide)
 have hdn:Q5o l k<=1000000000:=by have:=(List.takeWhile_sublist Q6n (l:=l.drop (k+2))).length_le;rw[length_drop]at this;unfold Q5o;omega
 have hxn:Q62 l k<=1000000000:=by have:=(List.takeWhile_sublist Q7w (l:=l.drop (k+3))).length_le;rw[length_drop]at this;unfold Q62;omega
 have hln:Qj l (k+1)<=1000000000:=by
  rw[QfB l k 1];unfold Qj;split
  ·omega
  ·split
   ·have:=(List.takeWhile_sublist Qq (l:=(l.drop k).drop 1)).length_le
    simp only[length_drop]at this;omega
   ·omega
 have HLD:∀W,Below w.heap.size w W->Hid (Calls prog 183 #[.slice A l.length c,.int .i64 ((k:Int)+1)] W fun e w'=>e=.returned (.int .i64 (Qj l (k+1)))/\Below W.heap.size W w'):=fun W h=>by
  rw[show((k:Int)+1)=((k+1:Nat):Int) by omega]
  exact Q78 S A l.length c l (k+1) W (HR.out.below h) (by omega)
 have HE1:∀W,Below w.heap.size w W->Hid (Calls prog 213 #[.slice A l.length c,.int .i64 ((k:Int)+3),.int .i64 (Q62 l k)] W fun e w'=>e=.returned (.bool (Q1y l (k+3) (Q62 l k)))/\W=w'):=fun W h=>by
  rw[show((k:Int)+3)=((k+3:Nat):Int) by omega]
  exact Q8L S A l.length c l (k+3) (Q62 l k) W (HR.out.below h) (by omega) (by omega)
 have HE2:∀W,Below w.heap.size w W->Hid (Calls prog 213 #[.slice A l.length c,.int .i64 ((k:Int)+2),.int .i64 (Q5o l k)] W fun e w'=>e=.returned (.bool (Q1y l (k+2) (Q5o l k)))/\W=w'):=fun W h=>by
  rw[show((k:Int)+2)=((k+2:Nat):Int) by omega]
  exact Q8L S A l.length c l (k+2) (Q5o l k) W (HR.out.below h) (by omega) (by omega)
 have HE3:∀W,Below w.heap.size w W->Hid (Calls prog 213 #[.slice A l.length c,.int .i64 ((k:Int)+1),.int .i64 (Qj l (k+1))] W fun e w'=>e=.returned (.bool (Q1y l (k+1) (Qj l (k+1))))/\W=w'):=fun W h=>by
  rw[show((k:Int)+1)=((k+1:Nat):Int) by omega]
  exact Q8L S A l.length c l (k+1) (Qj l (k+1)) W (HR.out.below h) (by omega) (by omega)
 have HREF:Hid (Q1n l k=if Q6 l k [38,35,120]&&Q1y l (k+3) (Q62 l k)then(3,k+4+Q62 l k,true)
  else if Q6 l k [38,35]&&Q1y l (k+2) (Q5o l k)then(3,k+3+Q5o l k,true)
  else if Q1y l (k+1) (Qj l (k+1))then(2,k+2+Qj l (k+1),true)else(11,k+1,false)):=rfl
 generalize Q6 l k [38,35,120]=s1 at HS1 HREF;generalize Q6 l k [38,35]=s2 at HS2 HREF;generalize Q1y l (k+3) (Q62 l k)=e1 at HE1 HREF;generalize Q1y l (k+2) (Q5o l k)=e2 at HE2 HREF;generalize Q1y l (k+1) (Qj l (k+1))=e3 at HE3 HREF;generalize Q62 l k=x at HRX HE1 HREF hxn;generalize Q5o l k=nd at HRN HE2 HREF hdn;generalize Qj l (k+1)=d at HLD HE3 HREF hln;generalize min (k+2) l.length=m2 at HRN hm2;generalize min (k+3) l.length=m3 at HRX hm3;clear hr;go_enter func175,ntmps175
 go_wp2_with fail
 have HTH0:=hid (Q2K w #[.int .i64 0,.int .i64 0,.int .i64 0,.bool false] 185);have HB0:=hid (ba w (.cells #[.int .i64 0,.int .i64 0,.int .i64 0,.bool false] 185));have HSZ:Hid (w.heap.size+1<=(w.alloc (.cells #[.int .i64 0,.int .i64 0,.int .i64 0,.bool false] 185)).heap.size):=by simp[Hid]
 generalize w.alloc (.cells #[.int .i64 0,.int .i64 0,.int .i64 0,.bool false] 185)=W0 at HTH0 HB0 HSZ;refine(HRN _ HB0.out).out.mono ?_;rintro e w1 ⟨rfl,hb1⟩;have HB1:=hid (HB0.out.trans (hb1.mono HB0.out.size));have HTH1:=hid (QK HTH0.out hb1 (by have:=HSZ.out;omega))
 have HLT:Hid (w.heap.size<w1.heap.size):=by have:=HSZ.out;have:=hb1.size;show _<_;omega
 clear hb1;go_wp2_with fail
 refine(HRX _ HB1.out).out.mono ?_;rintro e w2 ⟨rfl,hb2⟩;have HB2:=hid (HB1.out.trans (hb2.mono HB1.out.size));have HTH2:=hid (QK HTH1.out hb2 HLT.out);have HLT:=hid (lt_of_lt_of_le HLT.out hb2.size);clear hb2;go_wp2_with fail
 refine(HLD _ HB2.out).out.mono ?_;rintro e w3 ⟨rfl,hb3⟩;have HB3:=hid (HB2.out.trans (hb3.mono HB2.out.size));have HTH3:=hid (QK HTH2.out hb3 HLT.out);have HLT:=hid (lt_of_lt_of_le HLT.out hb3.size);clear hb3;go_wp2_with fail
 refine(HS1 _ HB3.out).out.mono ?_;rintro e w4 ⟨rfl,hb4⟩;have HB4:=hid (HB3.out.trans (hb4.mono HB3.out.size));have HTH4:=hid (QK HTH3.out hb4 HLT.out);have HLT:=hid (lt_of_lt_of_le HLT.out hb4.size);clear hb4 HB0 HB1 HB2 HB3 HTH0 HTH1 HTH2 HTH3 HRN HRX HLD HS1;cases s1 with
 |true =>
  go_wp2_with fail
  refine(HE1 _ HB4.out).out.mono ?_;rintro e wx ⟨rfl,rfl⟩;cases e1 with
  |true =>
   have HV:Hid (Q25 (Q1n l k) k=.agg #[.int .i64 3,.int .i64 k,.int .i64 ((k:Int)+4+(x:Int)),.bool true]):=by rw[Hid,HREF.out];simp[Q25]
   have HL9:=hid (QF (P:=prog) (T:=185) w4 w.heap.size [.int .i64 3,.int .i64 k,.int .i64 ((k:Int)+4+(x:Int)),.bool true] HTH4.out (by kernel_rfl) underlying185 rfl)
   have HB9:=hid (Qf HB4.out w.heap.size (le_refl _) [.int .i64 3,.int .i64 k,.int .i64 ((k:Int)+4+(x:Int)),.bool true] 0);obtain⟨⟨z0,hz0⟩,hf0⟩:=Q7 HTH4.out 0 (by decide)
   obtain⟨⟨z1,hz1⟩,hf1⟩:=Q7 HTH4.out 1 (by decide)
   obtain⟨⟨z2,hz2⟩,hf2⟩:=Q7 HTH4.out 2 (by decide)
   obtain⟨⟨z3,hz3⟩,hf3⟩:=Q7 HTH4.out 3 (by decide)
   go_wp2
   refine bodyPost_ret (Qw rfl _ rfl HL9.out) rfl ?_;rw[HV.out];exact⟨rfl,HB9.out⟩
  |false =>
   go_wp2_with fail
   refine(HS2 _ HB4.out).out.mono ?_;rintro e w5 ⟨rfl,hb5⟩;have HB5:=hid (HB4.out.trans (hb5.mono HB4.out.size));have HTH5:=hid (QK HTH4.out hb5 HLT.out);clear hb5;cases s2 with
   |true =>
    go_wp2_with fail
    refine(HE2 _ HB5.out).out.mono ?_;rintro e wx ⟨rfl,rfl⟩;cases e2 with
    |true =>
     have HV:Hid (Q25 (Q1n l k) k=.agg #[.int .i64 3,.int .i64 k,.int .i64 ((k:Int)+3+(nd:Int)),.bool true]):=by rw[Hid,HREF.out];simp[Q25]
     have HL9:=hid (QF (P:=prog) (T:=185) w5 w.heap.size [.int .i64 3,.int .i64 k,.int .i64 ((k:Int)+3+(nd:Int)),.bool true] HTH5.out (by kernel_rfl) underlying185 rfl)
     have HB9:=hid (Qf HB5.out w.heap.size (le_refl _) [.int .i64 3,.int .i64 k,.int .i64 ((k:Int)+3+(nd:Int)),.bool true] 0);obtain⟨⟨z0,hz0⟩,hf0⟩:=Q7 HTH5.out 0 (by decide)
     obtain⟨⟨z1,hz1⟩,hf1⟩:=Q7 HTH5.out 1 (by decide)
     obtain⟨⟨z2,hz2⟩,hf2⟩:=Q7 HTH5.out 2 (by decide)
     obtain⟨⟨z3,hz3⟩,hf3⟩:=Q7 HTH5.out 3 (by decide)
     go_wp2
     refine bodyPost_ret (Qw rfl _ rfl HL9.out) rfl ?_;rw[HV.out];exact⟨rfl,HB9.out⟩
    |false =>
     go_wp2_with fail
     refine(HE3 _ HB5.out).out.mono ?_;rintro e wx ⟨rfl,rfl⟩;cases e3 with
     |true =>
      have HV:Hid (Q25 (Q1n l k) k=.agg #[.int .i64 2,.int .i64 k,.int .i64 ((k:Int)+2+(d:Int)),.bool true]):=by rw[Hid,HREF.out];simp[Q25]
      have HL9:=hid (QF (P:=prog) (T:=185) w5 w.heap.size [.int .i64 2,.int .i64 k,.int .i64 ((k:Int)+2+(d:Int)),.bool true] HTH5.out (by kernel_rfl) underlying185 rfl)
      have HB9:=hid (Qf HB5.out w.heap.size (le_refl _) [.int .i64 2,.int .i64 k,.int .i64 ((k:Int)+2+(d:Int)),.bool true] 0);obtain⟨⟨z0,hz0⟩,hf0⟩:=Q7 HTH5.out 0 (by decide)
      obtain⟨⟨z1,hz1⟩,hf1⟩:=Q7 HTH5.out 1 (by decide)
      obtain⟨⟨z2,hz2⟩,hf2⟩:=Q7 HTH5.out 2 (by decide)
      obtain⟨⟨z3,hz3⟩,hf3⟩:=Q7 HTH5.out 3 (by decide)
      go_wp2
      refine bodyPost_ret (Qw rfl _ rfl HL9.out) rfl ?_;rw[HV.out];exact⟨rfl,HB9.out⟩
     |false =>
      have HV:Hid (Q25 (Q1n l k) k=.agg #[.int .i64 11,.int .i64 k,.int .i64 ((k:Int)+1),.bool false]):=by rw[Hid,HREF.out];simp[Q25]
      have HL9:=hid (QF (P:=prog) (T:=185) w5 w.heap.size [.int .i64 11,.int .i64 k,.int .i64 ((k:Int)+1),.bool false] HTH5.out (by kernel_rfl) underlying185 rfl)
      have HB9:=hid (Qf HB5.out w.heap.size (le_refl _) [.int .i64 11,.int .i64 k,.int .i64 ((k:Int)+1),.bool false] 0);obtain⟨⟨z0,hz0⟩,hf0⟩:=Q7 HTH5.out 0 (by decide)
      obtain⟨⟨z1,hz1⟩,hf1⟩:=Q7 HTH5.out 1 (by decide)
      obtain⟨⟨z2,hz2⟩,hf2⟩:=Q7 HTH5.out 2 (by decide)
      obtain⟨⟨z3,hz3⟩,hf3⟩:=Q7 HTH5.out 3 (by decide)
      go_wp2
      refine bodyPost_ret (Qw rfl _ rfl HL9.out) rfl ?_;rw[HV.out];exact⟨rfl,HB9.out⟩
   |false =>
    go_wp2_with fail
    refine(HE3 _ HB5.out).out.mono ?_;rintro e wx ⟨rfl,rfl⟩;cases e3 with
    |true =>
     have HV:Hid (Q25 (Q1n l k) k=.agg #[.int .i64 2,.int .i64 k,.int .i64 ((k:Int)+2+(d:Int)),.bool true]):=by rw[Hid,HREF.out];simp[Q25]
     have HL9:=hid (QF (P:=prog) (T:=185) w5 w.heap.size [.int .i64 2,.int .i64 k,.int .i64 ((k:Int)+2+(d:Int)),.bool true] HTH5.out (by kernel_rfl) underlying185 rfl)
     have HB9:=hid (Qf HB5.out w.heap.size (le_refl _) [.int .i64 2,.int .i64 k,.int .i64 ((k:Int)+2+(d:Int)),.bool true] 0);obtain⟨⟨z0,hz0⟩,hf0⟩:=Q7 HTH5.out 0 (by decide)
     obtain⟨⟨z1,hz1⟩,hf1⟩:=Q7 HTH5.out 1 (by decide)
     obtain⟨⟨z2,hz2⟩,hf2⟩:=Q7 HTH5.out 2 (by decide)
     obtain⟨⟨z3,hz3⟩,hf3⟩:=Q7 HTH5.out 3 (by decide)
     go_wp2
     refine bodyPost_ret (Qw rfl _ rfl HL9.out) rfl ?_;rw[HV.out];exact⟨rfl,HB9.out⟩
    |false =>
     have HV:Hid (Q25 (Q1n l k) k=.agg #[.int .i64 11,.int .i64 k,.int .i64 ((k:Int)+1),.bool false]):=by rw[Hid,HREF.out];simp[Q25]
     have HL9:=hid (QF (P:=prog) (T:=185) w5 w.heap.size [.int .i64 11,.int .i64 k,.int .i64 ((k:Int)+1),.bool false] HTH5.out (by kernel_rfl) underlying185 rfl)
     have HB9:=hid (Qf HB5.out w.heap.size (le_refl _) [.int .i64 11,.int .i64 k,.int .i64 ((k:Int)+1),.bool false] 0);obtain⟨⟨z0,hz0⟩,hf0⟩:=Q7 HTH5.out 0 (by decide)
     obtain⟨⟨z1,hz1⟩,hf1⟩:=Q7 HTH5.out 1 (by decide)
     obtain⟨⟨z2,hz2⟩,hf2⟩:=Q7 HTH5.out 2 (by decide)
     obtain⟨⟨z3,hz3⟩,hf3⟩:=Q7 HTH5.out 3 (by decide)
     go_wp2
     refine bodyPost_ret (Qw rfl _ rfl HL9.out) rfl ?_;rw[HV.out];exact⟨rfl,HB9.out⟩
 |false =>
  go_wp2_with fail
  refine(HS2 _ HB4.out).out.mono ?_;rintro e w5 ⟨rfl,hb5⟩;have HB5:=hid (HB4.out.trans (hb5.mono HB4.out.size));have HTH5:=hid (QK HTH4.out hb5 HLT.out);clear hb5;cases s2 with
  |true =>
   go_wp2_with fail
   refine(HE2 _ HB5.out).out.mono ?_;rintro e wx ⟨rfl,rfl⟩;cases e2 with
   |true =>
    have HV:Hid (Q25 (Q1n l k) k=.agg #[.int .i64 3,.int .i64 k,.int .i64 ((k:Int)+3+(nd:Int)),.bool true]):=by rw[Hid,HREF.out];simp[Q25]
    have HL9:=hid (QF (P:=prog) (T:=185) w5 w.heap.size [.int .i64 3,.int .i64 k,.int .i64 ((k:Int)+3+(nd:Int)),.bool true] HTH5.out (by kernel_rfl) underlying185 rfl)
    have HB9:=hid (Qf HB5.out w.heap.size (le_refl _) [.int .i64 3,.int .i64 k,.int .i64 ((k:Int)+3+(nd:Int)),.bool true] 0);obtain⟨⟨z0,hz0⟩,hf0⟩:=Q7 HTH5.out 0 (by decide)
    obtain⟨⟨z1,hz1⟩,hf1⟩:=Q7 HTH5.out 1 (by decide)
    obtain⟨⟨z2,hz2⟩,hf2⟩:=Q7 HTH5.out 2 (by decide)
    obtain⟨⟨z3,hz3⟩,hf3⟩:=Q7 HTH5.out 3 (by decide)
    go_wp2
    refine bodyPost_ret (Qw rfl _ rfl HL9.out) rfl ?_;rw[HV.out];exact⟨rfl,HB9.out⟩
   |false =>
    go_wp2_with fail
    refine(HE3 _ HB5.out).out.mono ?_;rintro e wx ⟨rfl,rfl⟩;cases e3 with
    |true =>
     have HV:Hid (Q25 (Q1n l k) k=.agg #[.int .i64 2,.int .i64 k,.int .i64 ((k:Int)+2+(d:Int)),.bool true]):=by rw[Hid,HREF.out];simp[Q25]
     have HL9:=hid (QF (P:=prog) (T:=185) w5 w.heap.size [.int .i64 2,.int .i64 k,.int .i64 ((k:Int)+2+(d:Int)),.bool true] HTH5.out (by kernel_rfl) underlying185 rfl)
     have HB9:=hid (Qf HB5.out w.heap.size (le_refl _) [.int .i64 2,.int .i64 k,.int .i64 ((k:Int)+2+(d:Int)),.bool true] 0);obtain⟨⟨z0,hz0⟩,hf0⟩:=Q7 HTH5.out 0 (by decide)
     obtain⟨⟨z1,hz1⟩,hf1⟩:=Q7 HTH5.out 1 (by decide)
     obtain⟨⟨z2,hz2⟩,hf2⟩:=Q7 HTH5.out 2 (by decide)
     obtain⟨⟨z3,hz3⟩,hf3⟩:=Q7 HTH5.out 3 (by decide)
     go_wp2
     refine bodyPost_ret (Qw rfl _ rfl HL9.out) rfl ?_;rw[HV.out];exact⟨rfl,HB9.out⟩
    |false =>
     have HV:Hid (Q25 (Q1n l k) k=.agg #[.int .i64 11,.int .i64 k,.int .i64 ((k:Int)+1),.bool false]):=by rw[Hid,HREF.out];simp[Q25]
     have HL9:=hid (QF (P:=prog) (T:=185) w5 w.heap.size [.int .i64 11,.int .i64 k,.int .i64 ((k:Int)+1),.bool false] HTH5.out (by kernel_rfl) underlying185 rfl)
     have HB9:=hid (Qf HB5.out w.heap.size (le_refl _) [.int .i64 11,.int .i64 k,.int .i64 ((k:Int)+1),.bool false] 0);obtain⟨⟨z0,hz0⟩,hf0⟩:=Q7 HTH5.out 0 (by decide)
     obtain⟨⟨z1,hz1⟩,hf1⟩:=Q7 HTH5.out 1 (by decide)
     obtain⟨⟨z2,hz2⟩,hf2⟩:=Q7 HTH5.out 2 (by decide)
     obtain⟨⟨z3,hz3⟩,hf3⟩:=Q7 HTH5.out 3 (by decide)
     go_wp2
     refine bodyPost_ret (Qw rfl _ rfl HL9.out) rfl ?_;rw[HV.out];exact⟨rfl,HB9.out⟩
  |false =>
   go_wp2_with fail
   refine(HE3 _ HB5.out).out.mono ?_;rintro e wx ⟨rfl,rfl⟩;cases e3 with
   |true =>
    have HV:Hid (Q25 (Q1n l k) k=.agg #[.int .i64 2,.int .i64 k,.int .i64 ((k:Int)+2+(d:Int)),.bool true]):=by rw[Hid,HREF.out];simp[Q25]
    have HL9:=hid (QF (P:=prog) (T:=185) w5 w.heap.size [.int .i64 2,.int .i64 k,.int .i64 ((k:Int)+2+(d:Int)),.bool true] HTH5.out (by kernel_rfl) underlying185 rfl)
    have HB9:=hid (Qf HB5.out w.heap.size (le_refl _) [.int .i64 2,.int .i64 k,.int .i64 ((k:Int)+2+(d:Int)),.bool true] 0);obtain⟨⟨z0,hz0⟩,hf0⟩:=Q7 HTH5.out 0 (by decide)
    obtain⟨⟨z1,hz1⟩,hf1⟩:=Q7 HTH5.out 1 (by decide)
    obtain⟨⟨z2,hz2⟩,hf2⟩:=Q7 HTH5.out 2 (by decide)
    obtain⟨⟨z3,hz3⟩,hf3⟩:=Q7 HTH5.out 3 (by decide)
    go_wp2
    refine bodyPost_ret (Qw rfl _ rfl HL9.out) rfl ?_;rw[HV.out];exact⟨rfl,HB9.out⟩
   |false =>
    have HV:Hid (Q25 (Q1n l k) k=.agg #[.int .i64 11,.int .i64 k,.int .i64 ((k:Int)+1),.bool false]):=by rw[Hid,HREF.out];simp[Q25]
    have HL9:=hid (QF (P:=prog) (T:=185) w5 w.heap.size [.int .i64 11,.int .i64 k,.int .i64 ((k:Int)+1),.bool false] HTH5.out (by kernel_rfl) underlying185 rfl)
    have HB9:=hid (Qf HB5.out w.heap.size (le_refl _) [.int .i64 11,.int .i64 k,.int .i64 ((k:Int)+1),.bool false] 0);obtain⟨⟨z0,hz0⟩,hf0⟩:=Q7 HTH5.out 0 (by decide)
    obtain⟨⟨z1,hz1⟩,hf1⟩:=Q7 HTH5.out 1 (by decide)
    obtain⟨⟨z2,hz2⟩,hf2⟩:=Q7 HTH5.out 2 (by decide)
    obtain⟨⟨z3,hz3⟩,hf3⟩:=Q7 HTH5.out 3 (by decide)
    go_wp2
    refine bodyPost_ret (Qw rfl _ rfl HL9.out) rfl ?_;rw[HV.out];exact⟨rfl,HB9.out⟩
def Q3k(r:Int):Bool:=r == 34||r == 39
def Q2p(l:List Int)(q:Int)(k:Nat):Nat×Bool:=if h:k<l.length then(if l[k]=q then(k+1,true)else Q2p l q (k+1))else(l.length,false)
termination_by l.length-k
theorem Q6C(l:List Int)(q:Int)(k:Nat)(h:k<l.length)(hq:l[k]=q):Q2p l q k=(k+1,true):=by rw[Q2p,dif_pos h,if_pos hq]
theorem Q5Q(l:List Int)(q:Int)(k:Nat)(h:k<l.length)(hq:l[k]≠q):Q2p l q k=Q2p l q (k+1):=by rw[Q2p,dif_pos h,if_neg hq]
theorem Q3L(l:List Int)(q:Int)(k:Nat)(h:¬k<l.length):Q2p l q k=(l.length,false):=by rw[Q2p,dif_neg h]
theorem QfP(l:List Int)(q:Int):∀(n k:Nat),l.length-k<=n->k<=l.length->k<=(Q2p l q k).1/\(Q2p l q k).1<=l.length/\(k<l.length->k<(Q2p l q k).1\/(Q2p l q k).1=l.length):=by
 intro n;induction n with
 |zero =>
  intro k h hk;rw[Q3L l q k (by omega)]
  simp only;omega
 |succ n ih =>
  intro k h hk;by_cases hlt:k<l.length
  ·by_cases hq:l[k]=q
   ·rw[Q6C l q k hlt hq];simp only;omega
   ·rw[Q5Q l q k hlt hq]
    have:=ih (k+1) (by omega) (by omega)
    omega
  ·rw[Q3L l q k hlt];simp only;omega
def Q1a(l:List Int)(k:Nat):Nat×Bool:=Q2p l (l.getD k 0) (k+1)
theorem Q2C(l:List Int)(k:Nat)(h:k<l.length):k<(Q1a l k).1/\(Q1a l k).1<=l.length:=by
 have:=QfP l (l.getD k 0) l.length (k+1) (by omega) (by omega)
 unfold Q1a;omega
def QN(l:List Int)(stops:Bool)(k:Nat):Nat×Bool :=
 if h:k<l.length then
  (if Q3k l[k]then QN l stops (Q1a l k).1 else if l[k]=62 then(k,true)else if l[k]=60/\stops=true then(k,false)else QN l stops (k+1))
 else(l.length,false)
termination_by l.length-k
decreasing_by
 ·have:=Q2C l k (by assumption);omega
 ·omega
theorem Q2l(l:List Int)(s:Bool)(k:Nat)(h:¬k<l.length):QN l s k=(l.length,false):=by rw[QN,dif_neg h]
theorem Q50(l:List Int)(s:Bool)(k:Nat)(h:k<l.length)(hq:Q3k l[k]=true):QN l s k=QN l s (Q1a l k).1:=by
 conv=>lhs;rw[QN]
 rw[dif_pos h,if_pos hq]
theorem Q5K(l:List Int)(s:Bool)(k:Nat)(h:k<l.length)(hq:l[k]=62):QN l s k=(k,true):=by
 rw[QN,dif_pos h,if_neg (by rw[hq];decide),if_pos hq]
theorem Q7e(l:List Int)(k:Nat)(h:k<l.length)(hq:l[k]=60):QN l true k=(k,false):=by
 rw[QN,dif_pos h,if_neg (by rw[hq];decide),if_neg (by rw[hq];decide),if_pos ⟨hq,rfl⟩]
theorem Q4k(l:List Int)(s:Bool)(k:Nat)(h:k<l.length)(h1:Q3k l[k]=false)(h2:l[k]≠62)(h3:¬(l[k]=60/\s=true)):QN l s k=QN l s (k+1):=by
 conv=>lhs;rw[QN]
 rw[dif_pos h,if_neg (by simp[h1]),if_neg h2,if_neg h3]
theorem Q38(l:List Int)(s:Bool):∀(n k:Nat),l.length-k<=n->k<=l.length->k<=(QN l s k).1/\(QN l s k).1<=l.length/\((QN l s k).2=true->(QN l s k).1<l.length):=by
 intro n;induction n with
 |zero =>
  intro k h hk;rw[Q2l l s k (by omega)]
  simp;omega
 |succ n ih =>
  intro k h hk;by_cases hlt:k<l.length
  ·cases hq:Q3k l[k]with
   |true =>
    have:=Q2C l k hlt
    have:=ih (Q1a l k).1 (by omega) (by omega)
    rw[Q50 l s k hlt hq];exact⟨by omega,by omega,this.2.2⟩
   |false =>
    by_cases h2:l[k]=62
    ·rw[Q5K l s k hlt h2];simp;omega
    ·by_cases h3:l[k]=60/\s=true
     ·obtain⟨h3,rfl⟩:=h3
      rw[Q7e l k hlt h3];simp;omega
     ·have:=ih (k+1) (by omega) (by omega)
      rw[Q4k l s k hlt hq h2 h3];exact⟨by omega,by omega,this.2.2⟩
  ·rw[Q2l l s k hlt]
   simp;omega
theorem Qan(r:Int)(w:World):Calls prog 225 #[.int .i32 r] w fun e w'=>e=.returned (.bool (Q3k r))/\w=w':=by
 by_cases h:r=34
 ·subst h
  go_enter func225,ntmps225
  go_wp2
  go_ret
  exact⟨rfl,rfl⟩
 ·have hb:(r == 34)=false:=by simpa using h
  have HE:Hid (Q3k r=(r == 39)):=by rw[Hid,Q3k,hb,Bool.false_or]
  clear h;go_enter func225,ntmps225
  go_wp2
  go_ret
  exact⟨QR HE.out.symm,rfl⟩
theorem Qbn(S:Nat->Prop)(A:Option Addr)(n c:Nat)(l:List Int)(k:Nat)(w:World)(hr:Rd w S 1 A n c (rc l))(hk:k<l.length)(hl9:l.length<=1000000000) :
  Calls prog 226 #[.slice A n c,.int .i64 k] w fun e w'=>e=.returned (.tuple #[.int .i64 (Q1a l k).1,.bool (Q1a l k).2])/\Below w.heap.size w w':=by
 obtain rfl:=hr.rlen;have hle:=hr.le;have hmx:c<=9223372036854775807:=hr.max;have HR:=hid hr;have hki:(k:Int)<(l.length:Int):=by omega
 have HT:Hid (Q1a l k=Q2p l l[k] (k+1)):=by rw[Hid,Q1a,Q89 hk]
 have HQ:=fun W (h:Below w.heap.size w W)=>hid ((HR.out.below h).rune hk)
 clear hr;generalize Q1a l k=t at HT ⊢;generalize l[k]=q at HT HQ;go_enter func226,ntmps226
 go_wp2
 go_loopw [6] (fun i wr=>∃j:Nat,k+1<=j/\j<=l.length/\i=.int .i64 j/\Hid (t=Q2p l q j)/\Hid (Below w.heap.size w wr)) (fun i _=>l.length-(intOf i).toNat)
 case atStart=>exact⟨k+1,le_refl _,by omega,by go_num,HT.out,Below.refl _ _⟩
 case round =>
  obtain⟨j,hj1,hj2,rfl,HJ,HB⟩:=hrel;by_cases hlt:j<l.length
  ·have hji:(j:Int)<(l.length:Int):=by omega
   obtain⟨b,o,rfl,hc0⟩:=(HR.out.below HB.out).rune hlt;obtain⟨b',o',hA,hc1⟩:=(HQ _ HB.out).out;injection hA with hA
   injection hA with e1 e2
   subst e1 e2;have HH:=hid (Q6C l q j hlt);have HM:=hid (Q5Q l q j hlt);generalize l[j]=r at hc0 HH HM;by_cases hq:r=q
   ·have HE:=hid (HJ.out.trans (HH.out hq))
    have hb:(r == q)=true:=by simpa using hq
    clear HH HM HJ hq;go_wp2
    go_quiet (fail)
    go_wp2
    go_ret2
    rw[HE.out];exact⟨rfl,Q1F HB.out _⟩
   ·have HE:=hid (HJ.out.trans (HM.out hq))
    have hb:(r == q)=false:=by simpa using hq
    clear HH HM HJ hq;go_wp2
    go_quiet (fail)
    go_wp2
    go_roundw
    case rel=>exact⟨j+1,by omega,by omega,by go_num,HE.out,Q1F HB.out _⟩
    case measure=>simp[intOf];omega
  ·have hji:¬(j:Int)<(l.length:Int):=by omega
   have HE:=hid (HJ.out.trans (Q3L l q j hlt));clear HJ;go_wp2
   go_ret2
   rw[HE.out];exact⟨rfl,HB.out⟩
theorem Qcz(S:Nat->Prop)(A:Option Addr)(n c:Nat)(l:List Int)(k:Nat)(s:Bool)(w:World)(hr:Rd w S 1 A n c (rc l))(hk:k<=l.length)(hl9:l.length<=1000000000) :
  Calls prog 228 #[.slice A n c,.int .i64 k,.bool s] w fun e w'=>e=.returned (.tuple #[.int .i64 (QN l s k).1,.bool (QN l s k).2])/\Below w.heap.size w w':=by
 obtain rfl:=hr.rlen;have hle:=hr.le;have hmx:c<=9223372036854775807:=hr.max;have HR:=hid hr;clear hr;obtain⟨t,ht⟩:∃t,t=QN l s k:=⟨_,rfl⟩;rw[<-ht];have HT:=hid ht;clear ht;go_enter func228,ntmps228
 go_wp2
 go_loopw [1] (fun i wr=>∃j:Nat,j<=l.length/\i=.int .i64 j/\Hid (t=QN l s j)/\Hid (Below w.heap.size w wr)) (fun i _=>l.length-(intOf i).toNat)
 case atStart=>exact⟨k,hk,rfl,HT.out,Below.refl _ _⟩
 case round =>
  obtain⟨j,hj,rfl,HJ,HB⟩:=hrel;by_cases hlt:j<l.length
  ·have hji:(j:Int)<(l.length:Int):=by omega
   obtain⟨b,o,rfl,hc0⟩:=(HR.out.below HB.out).rune hlt;have HQT:=hid (Qan l[j]);have HQD:=hid (Qbn S _ l.length c l j _ (HR.out.below HB.out) hlt hl9);obtain⟨hg1,hg2⟩:=Q2C l j hlt;have H1:=hid (Q50 l s j hlt);have H2:=hid (Q5K l s j hlt);have H4:=hid (Q4k l s j hlt);have H3:=hid (show s=true->l[j]=60->QN l s j=(j,false) from fun h h2=>by subst h;exact Q7e l j hlt h2)
   generalize l[j]=r at hc0 HQT H1 H2 H3 H4;cases hq:Q3k r with
   |true =>
    have HE:=hid (HJ.out.trans (H1.out hq));have HQT2:=fun W=>hid (HQT.out W)
    rw[hq]at HQT2;clear H1 H2 H3 H4 HJ hq HQT;generalize (Q1a l j).1=nx at HE HQD hg1 hg2;generalize (Q1a l j).2=nb at HQD;go_wp2_with fail
    refine(HQT2 _).out.mono ?_;rintro e wx ⟨rfl,rfl⟩;go_wp2_with fail
    refine HQD.out.mono ?_;rintro e w2 ⟨rfl,hb2⟩;have HB2:=hid (HB.out.trans (hb2.mono HB.out.size));clear hb2;go_wp2
    go_roundw
    case rel=>exact⟨nx,by omega,rfl,HE.out,HB2.out⟩
    case measure=>simp[intOf];omega
   |false =>
    have HQT2:=fun W=>hid (HQT.out W)
    rw[hq]at HQT2;clear HQD hg1 hg2 HQT;by_cases h62:r=62
    ·have HE:=hid (HJ.out.trans (H2.out h62))
     subst h62;clear H1 H2 H3 H4 HJ hq;go_wp2_with fail
     refine(HQT2 _).out.mono ?_;rintro e wx ⟨rfl,rfl⟩;go_wp2
     go_ret2
     rw[HE.out];exact⟨rfl,HB.out⟩
    ·have h62b:(r == 62)=false:=by simpa using h62
     by_cases h60:r=60
     ·subst h60
      cases s with
      |true =>
       have HE:=hid (HJ.out.trans (H3.out rfl rfl));clear H1 H2 H3 H4 HJ hq h62;go_wp2_with fail
       refine(HQT2 _).out.mono ?_;rintro e wx ⟨rfl,rfl⟩;go_wp2
       go_ret2
       rw[HE.out];exact⟨rfl,HB.out⟩
      |false =>
       have HE:=hid (HJ.out.trans (H4.out hq h62 (by simp)))
       clear H1 H2 H3 H4 HJ hq h62;go_wp2_with fail
       refine(HQT2 _).out.mono ?_;rintro e wx ⟨rfl,rfl⟩;go_wp2
       go_roundw
       case rel=>exact⟨j+1,by omega,by go_num,HE.out,HB.out⟩
       case measure=>simp[intOf];omega
     ·have h60b:(r == 60)=false:=by simpa using h60
      have HE:=hid (HJ.out.trans (H4.out hq h62 (fun h=>h60 h.1)))
      clear H1 H2 H3 H4 HJ hq h62 h60;go_wp2_with fail
      refine(HQT2 _).out.mono ?_;rintro e wx ⟨rfl,rfl⟩;go_wp2
      go_roundw
      case rel=>exact⟨j+1,by omega,by go_num,HE.out,HB.out⟩
      case measure=>simp[intOf];omega
  ·have hji:¬(j:Int)<(l.length:Int):=by omega
   have HE:=hid (HJ.out.trans (Q2l l s j hlt));clear HJ;go_wp2
   go_ret2
   rw[HE.out];exact⟨rfl,HB.out⟩
def Q14(l:List Int)(kd k skip:Nat)(bs:List UInt8):Nat×Nat×Bool:=match Q3Z l (min (k+skip) l.length) l.length bs with
 |none=>(kd,l.length,false)
 |some j=>(kd,j+bs.length,true)
def Q2q(l:List Int)(k:Nat):Nat×Bool:=if h:k<l.length then(if l[k]=62 then(k+1,true)else if l[k]=60 then(k,false)else Q2q l (k+1))else(l.length,false)
termination_by l.length-k
def Q3h(l:List Int)(k:Nat):Nat×Nat×Bool:=(10,(Q2q l (k+2)).1,(Q2q l (k+2)).2)
def Q1D(l:List Int)(k:Nat):Nat×Nat×Bool :=
 if(QN l true (k+1)).2=false then(8,(QN l true (k+1)).1,false)
 else if l[(QN l true (k+1)).1-1]?=some 47 then(9,(QN l true (k+1)).1+1,true)else(8,(QN l true (k+1)).1+1,true)
theorem QeK(l:List Int)(k:Nat)(h:k<l.length)(hq:l[k]=62):Q2q l k=(k+1,true):=by rw[Q2q,dif_pos h,if_pos hq]
theorem QdM(l:List Int)(k:Nat)(h:k<l.length)(hq:l[k]=60):Q2q l k=(k,false):=by rw[Q2q,dif_pos h,if_neg (by rw[hq];decide),if_pos hq]
theorem Q9L(l:List Int)(k:Nat)(h:k<l.length)(h1:l[k]≠62)(h2:l[k]≠60):Q2q l k=Q2q l (k+1):=by rw[Q2q,dif_pos h,if_neg h1,if_neg h2]
theorem Q8F(l:List Int)(k:Nat)(h:¬k<l.length):Q2q l k=(l.length,false):=by rw[Q2q,dif_neg h]
theorem Q6D(S:Nat->Prop)(A:Option Addr)(n c:Nat)(l:List Int)(kd k skip:Nat)(s:ByteArray)(w:World)(hr:Rd w S 1 A n c (rc l))(hk:k<=l.length)(hsk:skip<=1000)(hl9:l.length<=1000000000)(hs9:s.size<=1000) :
  Calls prog 207 #[.slice A n c,.int .i64 kd,.int .i64 k,.int .i64 skip,.string s] w fun e w'=>e=.returned (Q25 (Q14 l kd k skip s.data.toList) k)/\Below w.heap.size w w':=by
 obtain rfl:=hr.rlen;have hle:=hr.le;have hmx:c<=9223372036854775807:=hr.max;have HR:=hid hr;clear hr
 have hm:∀ts t W,(Builtin.min_ ts t #[.int .i64 ((k:Int)+(skip:Int)),.int .i64 (l.length:Int)]).run prog W=.ok (.int .i64 (min (k+skip) l.length:Nat)) W:=fun ts t W=>by
  rw[run_min_int2];congr 2
  split<;>omega
 have HF:=fun W (h:Below w.heap.size w W)=>hid (QhG S A l.length c l (min (k+skip) l.length) l.length s W (HR.out.below h) (by omega) (le_refl _) hl9 (by omega))
 have HT:Hid (Q14 l kd k skip s.data.toList=match Q3Z l (min (k+skip) l.length) l.length s.data.toList with
  |none=>(kd,l.length,false)
  |some j=>(kd,j+s.data.toList.length,true)):=rfl
 have hfl:∀j,Q3Z l (min (k+skip) l.length) l.length s.data.toList=some j->j<=l.length:=fun j h=>by
  rw[Q3Z,List.find?_range'_eq_some]at h;have:=mem_range'_1.1 h.2.1
  omega
 have HSL:=hid (show s.data.toList.length=s.size by simp)
 generalize Q14 l kd k skip s.data.toList=t at HT ⊢;generalize Q3Z l (min (k+skip) l.length) l.length s.data.toList=q at HF HT hfl;generalize min (k+skip) l.length=m2 at hm HF;cases q with
 |none =>
  have HE:Hid (t=(kd,l.length,false)):=HT.out;clear HT hfl;go_enter func207,ntmps207
  go_wp2_with fail
  have HTH0:=hid (Q2K w #[.int .i64 0,.int .i64 0,.int .i64 0,.bool false] 185);have HB0:=hid (ba w (.cells #[.int .i64 0,.int .i64 0,.int .i64 0,.bool false] 185));have HSZ:Hid (w.heap.size<(w.alloc (.cells #[.int .i64 0,.int .i64 0,.int .i64 0,.bool false] 185)).heap.size):=by simp[Hid]
  generalize w.alloc (.cells #[.int .i64 0,.int .i64 0,.int .i64 0,.bool false] 185)=W0 at HTH0 HB0 HSZ;refine(HF _ HB0.out).out.mono ?_;rintro e w1 ⟨rfl,hb1⟩;have HB1:=hid (HB0.out.trans (hb1.mono HB0.out.size));have HTH1:Hid (w1.there w.heap.size 0 4):=QK HTH0.out hb1 HSZ.out;clear hb1 HTH0 HSZ;have HL9:=hid (QF (P:=prog) (T:=185) w1 w.heap.size [.int .i64 kd,.int .i64 k,.int .i64 (l.length),.bool false] HTH1.out (by kernel_rfl) underlying185 rfl)
  have HB9:=hid (Qf HB1.out w.heap.size (le_refl _) [.int .i64 kd,.int .i64 k,.int .i64 (l.length),.bool false] 0);obtain⟨⟨z0,hz0⟩,hf0⟩:=Q7 HTH1.out 0 (by decide)
  obtain⟨⟨z1,hz1⟩,hf1⟩:=Q7 HTH1.out 1 (by decide)
  obtain⟨⟨z2,hz2⟩,hf2⟩:=Q7 HTH1.out 2 (by decide)
  obtain⟨⟨z3,hz3⟩,hf3⟩:=Q7 HTH1.out 3 (by decide)
  go_wp2
  refine bodyPost_ret (Qw rfl _ rfl HL9.out) rfl ?_;rw[HE.out];exact⟨by simp[Q25],HB9.out⟩
 |some j =>
  have HE:Hid (t=(kd,j+s.size,true)):=by rw[Hid,<-HSL.out];exact HT.out
  have hfl:=hfl j rfl;clear HT;go_enter func207,ntmps207
  go_wp2_with fail
  have HTH0:=hid (Q2K w #[.int .i64 0,.int .i64 0,.int .i64 0,.bool false] 185);have HB0:=hid (ba w (.cells #[.int .i64 0,.int .i64 0,.int .i64 0,.bool false] 185));have HSZ:Hid (w.heap.size<(w.alloc (.cells #[.int .i64 0,.int .i64 0,.int .i64 0,.bool false] 185)).heap.size):=by simp[Hid]
  generalize w.alloc (.cells #[.int .i64 0,.int .i64 0,.int .i64 0,.bool false] 185)=W0 at HTH0 HB0 HSZ;refine(HF _ HB0.out).out.mono ?_;rintro e w1 ⟨rfl,hb1⟩;have HB1:=hid (HB0.out.trans (hb1.mono HB0.out.size));have HTH1:Hid (w1.there w.heap.size 0 4):=QK HTH0.out hb1 HSZ.out;clear hb1 HTH0 HSZ;have HL9:=hid (QF (P:=prog) (T:=185) w1 w.heap.size [.int .i64 kd,.int .i64 k,.int .i64 ((j:Int)+(s.size:Int)),.bool true] HTH1.out (by kernel_rfl) underlying185 rfl)
  have HB9:=hid (Qf HB1.out w.heap.size (le_refl _) [.int .i64 kd,.int .i64 k,.int .i64 ((j:Int)+(s.size:Int)),.bool true] 0);obtain⟨⟨z0,hz0⟩,hf0⟩:=Q7 HTH1.out 0 (by decide)
  obtain⟨⟨z1,hz1⟩,hf1⟩:=Q7 HTH1.out 1 (by decide)
  obtain⟨⟨z2,hz2⟩,hf2⟩:=Q7 HTH1.out 2 (by decide)
  obtain⟨⟨z3,hz3⟩,hf3⟩:=Q7 HTH1.out 3 (by decide)
  go_wp2
  refine bodyPost_ret (Qw rfl _ rfl HL9.out) rfl ?_;rw[HE.out];exact⟨by simp[Q25],HB9.out⟩
theorem Qkk(S:Nat->Prop)(A:Option Addr)(n c:Nat)(l:List Int)(k:Nat)(w:World)(hr:Rd w S 1 A n c (rc l))(hk:k+2<=l.length)(hl9:l.length<=1000000000) :
  Calls prog 209 #[.slice A n c,.int .i64 k] w fun e w'=>e=.returned (Q25 (Q3h l k) k)/\Below w.heap.size w w':=by
 obtain rfl:=hr.rlen;have hle:=hr.le;have hmx:c<=9223372036854775807:=hr.max;have HR:=hid hr;clear hr;obtain⟨t,ht⟩:∃t,t=Q2q l (k+2):=⟨_,rfl⟩;have HT:=hid ht;have HTT:Hid (Q3h l k=(10,t.1,t.2)):=by rw[Hid,ht];rfl
 clear ht;go_enter func209,ntmps209
 go_wp2
 have HTH0:=hid (Q2K w #[.int .i64 0,.int .i64 0,.int .i64 0,.bool false] 185);have HB0:=hid (ba w (.cells #[.int .i64 0,.int .i64 0,.int .i64 0,.bool false] 185));have HSZ:Hid (w.heap.size<(w.alloc (.cells #[.int .i64 0,.int .i64 0,.int .i64 0,.bool false] 185)).heap.size):=by simp[Hid]
 generalize w.alloc (.cells #[.int .i64 0,.int .i64 0,.int .i64 0,.bool false] 185)=W0 at HTH0 HB0 HSZ;have HR0:=hid (HR.out.below HB0.out);have HTH0:Hid (W0.there w.heap.size 0 4):=HTH0.out;go_loopw [5] (fun i wr=>wr=W0/\∃j:Nat,k+2<=j/\j<=l.length/\i=.int .i64 j/\Hid (t=Q2q l j)) (fun i _=>l.length-(intOf i).toNat)
 case atStart=>exact⟨rfl,k+2,le_refl _,by omega,by go_num,HT.out⟩
 case round =>
  obtain⟨rfl,j,hj1,hj2,rfl,HJ⟩:=hrel;by_cases hlt:j<l.length
  ·have hji:(j:Int)<(l.length:Int):=by omega
   obtain⟨b,o,rfl,hc0⟩:=HR0.out.rune hlt;have H1:=hid (QeK l j hlt);have H2:=hid (QdM l j hlt);have H3:=hid (Q9L l j hlt);generalize l[j]=r at hc0 H1 H2 H3;by_cases h62:r=62
   ·have HE:Hid (Q3h l k=(10,j+1,true)):=by rw[Hid,HTT.out,HJ.out.trans (H1.out h62)]
    subst h62;clear H1 H2 H3 HJ HTT;have HL9:=hid (QF (P:=prog) (T:=185) wr w.heap.size [.int .i64 10,.int .i64 k,.int .i64 ((j:Int)+1),.bool true] HTH0.out (by kernel_rfl) underlying185 rfl)
    have HB9:=hid (Qf HB0.out w.heap.size (le_refl _) [.int .i64 10,.int .i64 k,.int .i64 ((j:Int)+1),.bool true] 0);obtain⟨⟨z0,hz0⟩,hf0⟩:=Q7 HTH0.out 0 (by decide)
    obtain⟨⟨z1,hz1⟩,hf1⟩:=Q7 HTH0.out 1 (by decide)
    obtain⟨⟨z2,hz2⟩,hf2⟩:=Q7 HTH0.out 2 (by decide)
    obtain⟨⟨z3,hz3⟩,hf3⟩:=Q7 HTH0.out 3 (by decide)
    go_wp2
    refine bodyPost_ret (Qw rfl _ rfl HL9.out) rfl ?_;rw[HE.out];exact⟨by simp[Q25],HB9.out⟩
   ·have h62b:(r == 62)=false:=by simpa using h62
    by_cases h60:r=60
    ·have HE:Hid (Q3h l k=(10,j,false)):=by rw[Hid,HTT.out,HJ.out.trans (H2.out h60)]
     subst h60;clear H1 H2 H3 HJ HTT h62;have HL9:=hid (QF (P:=prog) (T:=185) wr w.heap.size [.int .i64 10,.int .i64 k,.int .i64 (j),.bool false] HTH0.out (by kernel_rfl) underlying185 rfl)
     have HB9:=hid (Qf HB0.out w.heap.size (le_refl _) [.int .i64 10,.int .i64 k,.int .i64 (j),.bool false] 0);obtain⟨⟨z0,hz0⟩,hf0⟩:=Q7 HTH0.out 0 (by decide)
     obtain⟨⟨z1,hz1⟩,hf1⟩:=Q7 HTH0.out 1 (by decide)
     obtain⟨⟨z2,hz2⟩,hf2⟩:=Q7 HTH0.out 2 (by decide)
     obtain⟨⟨z3,hz3⟩,hf3⟩:=Q7 HTH0.out 3 (by decide)
     go_wp2
     refine bodyPost_ret (Qw rfl _ rfl HL9.out) rfl ?_;rw[HE.out];exact⟨by simp[Q25],HB9.out⟩
    ·have h60b:(r == 60)=false:=by simpa using h60
     have HN:=hid (HJ.out.trans (H3.out h62 h60));clear H1 H2 H3 HJ h62 h60;go_wp2
     go_roundw
     case rel=>exact⟨trivial,j+1,by omega,by omega,by go_num,HN.out⟩
     case measure=>simp[intOf];omega
  ·have hji:¬(j:Int)<(l.length:Int):=by omega
   have HE:Hid (Q3h l k=(10,l.length,false)):=by rw[Hid,HTT.out,HJ.out.trans (Q8F l j hlt)]
   clear HJ HTT;have HL9:=hid (QF (P:=prog) (T:=185) wr w.heap.size [.int .i64 10,.int .i64 k,.int .i64 (l.length),.bool false] HTH0.out (by kernel_rfl) underlying185 rfl)
   have HB9:=hid (Qf HB0.out w.heap.size (le_refl _) [.int .i64 10,.int .i64 k,.int .i64 (l.length),.bool false] 0);obtain⟨⟨z0,hz0⟩,hf0⟩:=Q7 HTH0.out 0 (by decide)
   obtain⟨⟨z1,hz1⟩,hf1⟩:=Q7 HTH0.out 1 (by decide)
   obtain⟨⟨z2,hz2⟩,hf2⟩:=Q7 HTH0.out 2 (by decide)
   obtain⟨⟨z3,hz3⟩,hf3⟩:=Q7 HTH0.out 3 (by decide)
   go_wp2
   refine bodyPost_ret (Qw rfl _ rfl HL9.out) rfl ?_;rw[HE.out];exact⟨by simp[Q25],HB9.out⟩
theorem QfL(S:Nat->Prop)(A:Option Addr)(n c:Nat)(l:List Int)(k:Nat)(w:World)(hr:Rd w S 1 A n c (rc l))(hk:k<l.length)(hl9:l.length<=1000000000) :
  Calls prog 210 #[.slice A n c,.int .i64 k] w fun e w'=>e=.returned (Q25 (Q1D l k) k)/\Below w.heap.size w w':=by
 obtain rfl:=hr.rlen;have hle:=hr.le;have hmx:c<=9223372036854775807:=hr.max;have HR:=hid hr
 have HAN:∀W,Below w.heap.size w W->Hid (Calls prog 228 #[.slice A l.length c,.int .i64 ((k:Int)+1),.bool true] W fun e w'=>e=.returned (.tuple #[.int .i64 (QN l true (k+1)).1,.bool (QN l true (k+1)).2])/\Below W.heap.size W w'):=fun W h=>by
  rw[show((k:Int)+1)=((k+1:Nat):Int) by omega]
  exact Qcz S A l.length c l (k+1) true W (HR.out.below h) (by omega) hl9
 obtain⟨ha1,ha2,ha3⟩:=Q38 l true l.length (k+1) (by omega) (by omega)
 have HT:Hid (Q1D l k=if(QN l true (k+1)).2=false then(8,(QN l true (k+1)).1,false)
  else if l[(QN l true (k+1)).1-1]?=some 47 then(9,(QN l true (k+1)).1+1,true)else(8,(QN l true (k+1)).1+1,true)):=rfl
 clear hr;generalize (QN l true (k+1)).1=j at HAN HT ha1 ha2 ha3;generalize (QN l true (k+1)).2=b at HAN HT ha3;go_enter func210,ntmps210
 go_wp2_with fail
 have HTH0:=hid (Q2K w #[.int .i64 0,.int .i64 0,.int .i64 0,.bool false] 185);have HB0:=hid (ba w (.cells #[.int .i64 0,.int .i64 0,.int .i64 0,.bool false] 185));have HSZ:Hid (w.heap.size<(w.alloc (.cells #[.int .i64 0,.int .i64 0,.int .i64 0,.bool false] 185)).heap.size):=by simp[Hid]
 generalize w.alloc (.cells #[.int .i64 0,.int .i64 0,.int .i64 0,.bool false] 185)=W0 at HTH0 HB0 HSZ;refine(HAN _ HB0.out).out.mono ?_;rintro e w1 ⟨rfl,hb1⟩;have HB1:=hid (HB0.out.trans (hb1.mono HB0.out.size));have HTH1:Hid (w1.there w.heap.size 0 4):=QK HTH0.out hb1 HSZ.out;clear hb1 HTH0 HSZ HB0 HAN;cases b with
 |false =>
  have HE:Hid (Q1D l k=(8,j,false)):=HT.out;clear HT ha3;have HL9:=hid (QF (P:=prog) (T:=185) w1 w.heap.size [.int .i64 8,.int .i64 k,.int .i64 (j),.bool false] HTH1.out (by kernel_rfl) underlying185 rfl)
  have HB9:=hid (Qf HB1.out w.heap.size (le_refl _) [.int .i64 8,.int .i64 k,.int .i64 (j),.bool false] 0);obtain⟨⟨z0,hz0⟩,hf0⟩:=Q7 HTH1.out 0 (by decide)
  obtain⟨⟨z1,hz1⟩,hf1⟩:=Q7 HTH1.out 1 (by decide)
  obtain⟨⟨z2,hz2⟩,hf2⟩:=Q7 HTH1.out 2 (by decide)
  obtain⟨⟨z3,hz3⟩,hf3⟩:=Q7 HTH1.out 3 (by decide)
  go_wp2
  refine bodyPost_ret (Qw rfl _ rfl HL9.out) rfl ?_;rw[HE.out];exact⟨by simp[Q25],HB9.out⟩
 |true =>
  have ha3:=ha3 rfl;have hj1:j-1<l.length:=by omega
  have hj1i:(j:Int)-1<(l.length:Int):=by omega
  have hj0i:(0:Int)<=(j:Int)-1:=by omega
  obtain⟨b,o,rfl,hc0⟩:=(HR.out.below HB1.out).rune hj1
  have HT2:Hid (Q1D l k=if l[j-1]=47 then(9,j+1,true)else(8,j+1,true)):=by
   rw[Hid,HT.out,if_neg (by simp),List.getElem?_eq_getElem hj1]
   simp only[Option.some.injEq]
  generalize l[j-1]=r at hc0 HT2;clear HT;by_cases h47:r=47
  ·have HE:Hid (Q1D l k=(9,j+1,true)):=by rw[Hid,HT2.out,if_pos h47]
   subst h47;clear HT2;have HL9:=hid (QF (P:=prog) (T:=185) w1 w.heap.size [.int .i64 9,.int .i64 k,.int .i64 ((j:Int)+1),.bool true] HTH1.out (by kernel_rfl) underlying185 rfl)
   have HB9:=hid (Qf HB1.out w.heap.size (le_refl _) [.int .i64 9,.int .i64 k,.int .i64 ((j:Int)+1),.bool true] 0);obtain⟨⟨z0,hz0⟩,hf0⟩:=Q7 HTH1.out 0 (by decide)
   obtain⟨⟨z1,hz1⟩,hf1⟩:=Q7 HTH1.out 1 (by decide)
   obtain⟨⟨z2,hz2⟩,hf2⟩:=Q7 HTH1.out 2 (by decide)
   obtain⟨⟨z3,hz3⟩,hf3⟩:=Q7 HTH1.out 3 (by decide)
   go_wp2
   refine bodyPost_ret (Qw rfl _ rfl HL9.out) rfl ?_;rw[HE.out];exact⟨by simp[Q25],HB9.out⟩
  ·have HE:Hid (Q1D l k=(8,j+1,true)):=by rw[Hid,HT2.out,if_neg h47]
   have h47b:(r == 47)=false:=by simpa using h47
   clear HT2 h47;have HL9:=hid (QF (P:=prog) (T:=185) w1 w.heap.size [.int .i64 8,.int .i64 k,.int .i64 ((j:Int)+1),.bool true] HTH1.out (by kernel_rfl) underlying185 rfl)
   have HB9:=hid (Qf HB1.out w.heap.size (le_refl _) [.int .i64 8,.int .i64 k,.int .i64 ((j:Int)+1),.bool true] 0);obtain⟨⟨z0,hz0⟩,hf0⟩:=Q7 HTH1.out 0 (by decide)
   obtain⟨⟨z1,hz1⟩,hf1⟩:=Q7 HTH1.out 1 (by decide)
   obtain⟨⟨z2,hz2⟩,hf2⟩:=Q7 HTH1.out 2 (by decide)
   obtain⟨⟨z3,hz3⟩,hf3⟩:=Q7 HTH1.out 3 (by decide)
   go_wp2
   refine bodyPost_ret (Qw rfl _ rfl HL9.out) rfl ?_;rw[HE.out];exact⟨by simp[Q25],HB9.out⟩
theorem Qek(l:List Int)(k t:Nat)(bs:List UInt8)(j:Nat)(h:Q3Z l k t bs=some j):k<=j/\j<t+1-bs.length:=by
 rw[Q3Z,List.find?_range'_eq_some]at h;have:=mem_range'_1.1 h.2.1
 omega
theorem Q4m(l:List Int)(kd k skip:Nat)(bs:List UInt8)(hk:k<l.length)(hb:0<bs.length):k<(Q14 l kd k skip bs).2.1/\(Q14 l kd k skip bs).2.1<=l.length:=by
 unfold Q14;cases h:Q3Z l (min (k+skip) l.length) l.length bs with
 |none=>simp only;omega
 |some j =>
  have:=Qek l _ _ bs j h
  simp only;omega
def Q3D(l:List Int)(k:Nat):Nat×Bool :=
 if Q6 l k [60,33,45,45]=true then((Q14 l 4 k 4 [45,45,62]).2.1,(Q14 l 4 k 4 [45,45,62]).2.2)
 else if Q6 l k [60,63]=true then((Q14 l 5 k 2 [63,62]).2.1,(Q14 l 5 k 2 [63,62]).2.2)
 else if l.getD k 0=60 then(min ((QN l false k).1+1) l.length,(QN l false k).2)
 else(k+1,true)
theorem Q5i(l:List Int)(k:Nat)(hk:k<l.length):k<(Q3D l k).1/\(Q3D l k).1<=l.length:=by
 unfold Q3D;split
 ·exact Q4m l 4 k 4 _ hk (by decide)
 ·split
  ·exact Q4m l 5 k 2 _ hk (by decide)
  ·split
   ·have:=Q38 l false l.length k (by omega) (by omega)
    simp only;omega
   ·simp only;omega
def Q3M(l:List Int)(k:Nat)(ok:Bool):Nat×Bool :=
 if h:k<l.length/\ok=true then(if l[k]'h.1=93 then(k+1,true)else Q3M l (Q3D l k).1 (Q3D l k).2)else(l.length,false)
termination_by l.length-k
decreasing_by
 have:=Q5i l k h.1;omega
theorem Q8Z(l:List Int)(k:Nat)(h:k<l.length)(hq:l[k]=93):Q3M l k true=(k+1,true):=by rw[Q3M,dif_pos ⟨h,rfl⟩,if_pos hq]
theorem Q7V(l:List Int)(k:Nat)(h:k<l.length)(hq:l[k]≠93):Q3M l k true=Q3M l (Q3D l k).1 (Q3D l k).2:=by
 conv=>lhs;rw[Q3M]
 rw[dif_pos ⟨h,rfl⟩,if_neg hq]
theorem Q4I(l:List Int)(k:Nat)(ok:Bool)(h:¬(k<l.length/\ok=true)):Q3M l k ok=(l.length,false):=by rw[Q3M,dif_neg h]
theorem QeU(l:List Int):∀(n k:Nat)(ok:Bool),l.length-k<=n->k<=l.length->(k<(Q3M l k ok).1\/(Q3M l k ok).1=l.length)/\(Q3M l k ok).1<=l.length:=by
 intro n;induction n with
 |zero =>
  intro k ok h hk;rw[Q4I l k ok (by omega)]
  simp
 |succ n ih =>
  intro k ok h hk;by_cases hlt:k<l.length/\ok=true
  ·obtain⟨hlt,rfl⟩:=hlt
   by_cases hq:l[k]=93
   ·rw[Q8Z l k hlt hq];simp only;omega
   ·have:=Q5i l k hlt
    have:=ih (Q3D l k).1 (Q3D l k).2 (by omega) (by omega)
    rw[Q7V l k hlt hq];omega
  ·rw[Q4I l k ok hlt];simp
def Q7A(l:List Int)(k:Nat):Nat×Bool:=Q3M l (k+1) true
theorem Qd3(S:Nat->Prop)(A:Option Addr)(n c:Nat)(l:List Int)(k:Nat)(w:World)(hr:Rd w S 1 A n c (rc l))(hk:k<l.length)(hl9:l.length<=1000000000) :
  Calls prog 234 #[.slice A n c,.int .i64 k] w fun e w'=>e=.returned (.tuple #[.int .i64 (Q3D l k).1,.bool (Q3D l k).2])/\Below w.heap.size w w':=by
 obtain rfl:=hr.rlen;have hle:=hr.le;have hmx:c<=9223372036854775807:=hr.max;have HR:=hid hr
 have HS1:∀W,Below w.heap.size w W->Hid (Calls prog 185 #[.slice A l.length c,.int .i64 k,.string ⟨#[60,33,45,45]⟩] W fun e w'=>e=.returned (.bool (Q6 l k [60,33,45,45]))/\Below W.heap.size W w') :=
  fun W h=>Q24 S A l.length c l k ⟨#[60,33,45,45]⟩ W (HR.out.below h) (by omega) hl9 (by decide)
 have HS2:∀W,Below w.heap.size w W->Hid (Calls prog 185 #[.slice A l.length c,.int .i64 k,.string ⟨#[60,63]⟩] W fun e w'=>e=.returned (.bool (Q6 l k [60,63]))/\Below W.heap.size W w') :=
  fun W h=>Q24 S A l.length c l k ⟨#[60,63]⟩ W (HR.out.below h) (by omega) hl9 (by decide)
 have HU1:∀W,Below w.heap.size w W->Hid (Calls prog 207 #[.slice A l.length c,.int .i64 4,.int .i64 k,.int .i64 4,.string ⟨#[45,45,62]⟩] W fun e w'=>e=.returned (Q25 (Q14 l 4 k 4 [45,45,62]) k)/\Below W.heap.size W w') :=
  fun W h=>Q6D S A l.length c l 4 k 4 ⟨#[45,45,62]⟩ W (HR.out.below h) (by omega) (by decide) hl9 (by decide)
 have HU2:∀W,Below w.heap.size w W->Hid (Calls prog 207 #[.slice A l.length c,.int .i64 5,.int .i64 k,.int .i64 2,.string ⟨#[63,62]⟩] W fun e w'=>e=.returned (Q25 (Q14 l 5 k 2 [63,62]) k)/\Below W.heap.size W w') :=
  fun W h=>Q6D S A l.length c l 5 k 2 ⟨#[63,62]⟩ W (HR.out.below h) (by omega) (by decide) hl9 (by decide)
 have HAN:=fun W (h:Below w.heap.size w W)=>hid (Qcz S A l.length c l k false W (HR.out.below h) (by omega) hl9)
 obtain⟨ha1,ha2,_⟩:=Q38 l false l.length k (by omega) (by omega)
 have HT:Hid (Q3D l k=if Q6 l k [60,33,45,45]=true then((Q14 l 4 k 4 [45,45,62]).2.1,(Q14 l 4 k 4 [45,45,62]).2.2)
  else if Q6 l k [60,63]=true then((Q14 l 5 k 2 [63,62]).2.1,(Q14 l 5 k 2 [63,62]).2.2)
  else if l[k]=60 then(min ((QN l false k).1+1) l.length,(QN l false k).2)else(k+1,true)):=by rw[Hid,Q3D,Q89 hk]
 have HCK:=fun W (h:Below w.heap.size w W)=>hid ((HR.out.below h).rune hk)
 clear hr;have hki:(k:Int)<(l.length:Int):=by omega
 generalize Q3D l k=t at HT ⊢;generalize Q6 l k [60,33,45,45]=s1 at HS1 HT;generalize Q6 l k [60,63]=s2 at HS2 HT;generalize Q14 l 4 k 4 [45,45,62]=u1 at HU1 HT;generalize Q14 l 5 k 2 [63,62]=u2 at HU2 HT;generalize (QN l false k).1=aj at HAN HT ha1 ha2;generalize (QN l false k).2=ab at HAN HT;generalize l[k]=r at HCK HT;obtain⟨k1,t1,w1b⟩:=u1;obtain⟨k2,t2,w2b⟩:=u2;have HU1:∀W,Below w.heap.size w W->Hid (Calls prog 207 #[.slice A l.length c,.int .i64 4,.int .i64 k,.int .i64 4,.string ⟨#[45,45,62]⟩] W fun e w'=>e=.returned (.agg #[.int .i64 k1,.int .i64 k,.int .i64 t1,.bool w1b])/\Below W.heap.size W w'):=HU1
 have HU2:∀W,Below w.heap.size w W->Hid (Calls prog 207 #[.slice A l.length c,.int .i64 5,.int .i64 k,.int .i64 2,.string ⟨#[63,62]⟩] W fun e w'=>e=.returned (.agg #[.int .i64 k2,.int .i64 k,.int .i64 t2,.bool w2b])/\Below W.heap.size W w'):=HU2
 have hm:∀ts t W,(Builtin.min_ ts t #[.int .i64 ((aj:Int)+1),.int .i64 (l.length:Int)]).run prog W=.ok (.int .i64 (min (aj+1) l.length:Nat)) W:=fun ts t W=>by
  rw[run_min_int2];congr 2
  split<;>omega
 go_enter func234,ntmps234
 go_wp2_with fail
 refine(HS1 _ (Below.refl _ _)).out.mono ?_;rintro e v1 ⟨rfl,hb1⟩;have HB1:=hid hb1;clear hb1 HS1;cases s1 with
 |true =>
  have HE:Hid (t=(t1,w1b)):=HT.out;clear HT;go_wp2_with fail
  refine(HU1 _ HB1.out).out.mono ?_;rintro e v2 ⟨rfl,hb2⟩;have HB2:=hid (bt HB1.out hb2);clear hb2;go_wp2
  go_quiet (fail)
  go_wp2
  go_ret2
  rw[HE.out];exact⟨rfl,Q1F (bt HB2.out (ba _ _)) _⟩
 |false =>
  go_wp2_with fail
  refine(HS2 _ HB1.out).out.mono ?_;rintro e v2 ⟨rfl,hb2⟩;have HB2:=hid (bt HB1.out hb2);clear hb2;cases s2 with
  |true =>
   have HE:Hid (t=(t2,w2b)):=HT.out;clear HT;go_wp2_with fail
   refine(HU2 _ HB2.out).out.mono ?_;rintro e v3 ⟨rfl,hb3⟩;have HB3:=hid (bt HB2.out hb3);clear hb3;go_wp2
   go_quiet (fail)
   go_wp2
   go_ret2
   rw[HE.out];exact⟨rfl,Q1F (bt HB3.out (ba _ _)) _⟩
  |false =>
   obtain⟨b,o,rfl,hc0⟩:=(HCK _ HB2.out).out;by_cases h60:r=60
   ·have HE:Hid (t=(min (aj+1) l.length,ab)):=by rw[Hid,HT.out];simp[h60]
    subst h60;clear HT HCK;generalize min (aj+1) l.length=m2 at hm HE;go_wp2_with fail
    refine(HAN _ HB2.out).out.mono ?_;rintro e v3 ⟨rfl,hb3⟩;have HB3:=hid (bt HB2.out hb3);clear hb3;go_wp2
    go_ret2
    rw[HE.out];exact⟨rfl,HB3.out⟩
   ·have HE:Hid (t=(k+1,true)):=by rw[Hid,HT.out];simp[h60]
    have h60b:(r == 60)=false:=by simpa using h60
    clear HT HCK h60;go_wp2
    go_ret2
    rw[HE.out];exact⟨by simp,HB2.out⟩
theorem Qfy(S:Nat->Prop)(A:Option Addr)(n c:Nat)(l:List Int)(k:Nat)(w:World)(hr:Rd w S 1 A n c (rc l))(hk:k<l.length)(hl9:l.length<=1000000000) :
  Calls prog 227 #[.slice A n c,.int .i64 k] w fun e w'=>e=.returned (.tuple #[.int .i64 (Q7A l k).1,.bool (Q7A l k).2])/\Below w.heap.size w w':=by
 obtain rfl:=hr.rlen;have hle:=hr.le;have hmx:c<=9223372036854775807:=hr.max;have HR:=hid hr;clear hr;have HT:Hid (Q7A l k=Q3M l (k+1) true):=rfl;generalize Q7A l k=t at HT ⊢;go_enter func227,ntmps227
 go_wp2
 go_loopw [1,6] (fun i o wr=>∃(j:Nat) (ok:Bool),j<=l.length/\i=.int .i64 j/\o=.bool ok/\Hid (t=Q3M l j ok)/\Hid (Below w.heap.size w wr)) (fun i _ _=>l.length-(intOf i).toNat)
 case atStart=>exact⟨k+1,true,by omega,by go_num,rfl,HT.out,Below.refl _ _⟩
 case round =>
  obtain⟨j,ok,hj,rfl,rfl,HJ,HB⟩:=hrel;by_cases hlt:j<l.length
  ·have hji:(j:Int)<(l.length:Int):=by omega
   cases ok with
   |true =>
    obtain⟨b,o,rfl,hc0⟩:=(HR.out.below HB.out).rune hlt;have H1:=hid (Q8Z l j hlt);have H2:=hid (Q7V l j hlt);have HDC:=hid (Qd3 S _ l.length c l j _ (HR.out.below HB.out) hlt hl9);obtain⟨hd1,hd2⟩:=Q5i l j hlt;generalize l[j]=r at hc0 H1 H2;generalize (Q3D l j).1=dj at H2 HDC hd1 hd2;generalize (Q3D l j).2=db at H2 HDC;by_cases h93:r=93
    ·have HE:=hid (HJ.out.trans (H1.out h93))
     subst h93;clear H1 H2 HJ HDC;go_wp2
     go_ret2
     rw[HE.out];exact⟨by simp,HB.out⟩
    ·have HE:=hid (HJ.out.trans (H2.out h93))
     have h93b:(r == 93)=false:=by simpa using h93
     clear H1 H2 HJ h93;go_wp2_with fail
     refine HDC.out.mono ?_;rintro e v2 ⟨rfl,hb2⟩;have HB2:=hid (HB.out.trans (hb2.mono HB.out.size));clear hb2;go_wp2
     go_roundw
     case rel=>exact⟨dj,db,by omega,rfl,rfl,HE.out,HB2.out⟩
     case measure=>simp[intOf];omega
   |false =>
    have HE:=hid (HJ.out.trans (Q4I l j false (by simp)))
    clear HJ;go_wp2
    go_ret2
    rw[HE.out];exact⟨rfl,HB.out⟩
  ·have hji:¬(j:Int)<(l.length:Int):=by omega
   have HE:=hid (HJ.out.trans (Q4I l j ok (fun h=>hlt h.1)))
   clear HJ;go_wp2
   go_ret2
   rw[HE.out];exact⟨rfl,HB.out⟩
theorem Q7D(l:List Int)(k:Nat)(hk:k<l.length):k<(Q7A l k).1/\(Q7A l k).1<=l.length:=by
 have:=QeU l l.length (k+1) true (by omega) (by omega)
 unfold Q7A;omega
def Q2v(l:List Int)(k:Nat)(ok:Bool):Nat×Bool :=
 if h:k<l.length/\ok=true then
  (if l[k]'h.1=62 then(k+1,true)else if Q3k (l[k]'h.1)then Q2v l (Q1a l k).1 (Q1a l k).2 else if l[k]'h.1=91 then Q2v l (Q7A l k).1 (Q7A l k).2 else Q2v l (k+1) true)
 else(l.length,false)
termination_by l.length-k
decreasing_by
 ·have:=Q2C l k h.1;omega
 ·have:=Q7D l k h.1;omega
 ·omega
theorem Q4J(l:List Int)(k:Nat)(ok:Bool)(h:¬(k<l.length/\ok=true)):Q2v l k ok=(l.length,false):=by rw[Q2v,dif_neg h]
theorem Q8Q(l:List Int)(k:Nat)(h:k<l.length)(hq:l[k]=62):Q2v l k true=(k+1,true):=by rw[Q2v,dif_pos ⟨h,rfl⟩,if_pos hq]
theorem Q8V(l:List Int)(k:Nat)(h:k<l.length)(h1:l[k]≠62)(hq:Q3k l[k]=true):Q2v l k true=Q2v l (Q1a l k).1 (Q1a l k).2:=by
 conv=>lhs;rw[Q2v]
 rw[dif_pos ⟨h,rfl⟩,if_neg h1,if_pos hq]
theorem Q93(l:List Int)(k:Nat)(h:k<l.length)(hq:l[k]=91):Q2v l k true=Q2v l (Q7A l k).1 (Q7A l k).2:=by
 conv=>lhs;rw[Q2v]
 rw[dif_pos ⟨h,rfl⟩,if_neg (by rw[hq];decide),if_neg (by rw[hq];decide),if_pos hq]
theorem Q7X(l:List Int)(k:Nat)(h:k<l.length)(h1:l[k]≠62)(h2:Q3k l[k]=false)(h3:l[k]≠91):Q2v l k true=Q2v l (k+1) true:=by
 conv=>lhs;rw[Q2v]
 rw[dif_pos ⟨h,rfl⟩,if_neg h1,if_neg (by simp[h2]),if_neg h3]
def Q3E(l:List Int)(k:Nat):Nat×Nat×Bool:=(7,(Q2v l (k+9) true).1,(Q2v l (k+9) true).2)
def Q1H(l:List Int)(k:Nat):Nat×Nat×Bool :=
 if Q6 l k [60,33,45,45]=true then Q14 l 4 k 4 [45,45,62]
 else if Q6 l k [60,33,91,67,68,65,84,65,91]=true then Q14 l 6 k 9 [93,93,62]
 else if Q6 l k [60,63]=true then Q14 l 5 k 2 [63,62]
 else if Q6 l k [60,33,68,79,67,84,89,80,69]=true then Q3E l k
 else if Q6 l k [60,47]=true then Q3h l k
 else if 0<Qj l (k+1)then Q1D l k
 else(11,k+1,false)
def Q1Q(r:Int):Bool:=r != 60&&(r != 38&&r != -1)
def Ql(l:List Int)(k:Nat):Nat×Nat×Bool :=
 if l.getD k 0=60 then Q1H l k else if l.getD k 0=38 then Q1n l k else if l.getD k 0=-1 then(11,k+1,false)
 else(1,k+((l.drop k).takeWhile Q1Q).length,true)
theorem Qd5(S:Nat->Prop)(A:Option Addr)(n c:Nat)(l:List Int)(k:Nat)(w:World)(hr:Rd w S 1 A n c (rc l))(hk:k+9<=l.length)(hl9:l.length<=1000000000) :
  Calls prog 208 #[.slice A n c,.int .i64 k] w fun e w'=>e=.returned (Q25 (Q3E l k) k)/\Below w.heap.size w w':=by
 obtain rfl:=hr.rlen;have hle:=hr.le;have hmx:c<=9223372036854775807:=hr.max;have HR:=hid hr;clear hr;obtain⟨t,ht⟩:∃t,t=Q2v l (k+9) true:=⟨_,rfl⟩;have HT:=hid ht;have HTT:Hid (Q3E l k=(7,t.1,t.2)):=by rw[Hid,ht];rfl
 clear ht;go_enter func208,ntmps208
 go_wp2
 have HTH0:=hid (Q2K w #[.int .i64 0,.int .i64 0,.int .i64 0,.bool false] 185);have HB0:=hid (ba w (.cells #[.int .i64 0,.int .i64 0,.int .i64 0,.bool false] 185));have HSZ:Hid (w.heap.size<(w.alloc (.cells #[.int .i64 0,.int .i64 0,.int .i64 0,.bool false] 185)).heap.size):=by simp[Hid]
 generalize w.alloc (.cells #[.int .i64 0,.int .i64 0,.int .i64 0,.bool false] 185)=W0 at HTH0 HB0 HSZ;have HTH0:Hid (W0.there w.heap.size 0 4):=HTH0.out;go_loopw [5,6] (fun o i wr=>∃(j:Nat) (ok:Bool),j<=l.length/\i=.int .i64 j/\o=.bool ok/\Hid (t=Q2v l j ok)/\Hid (Below w.heap.size w wr)/\Hid (wr.there w.heap.size 0 4)/\Hid (w.heap.size<wr.heap.size)) (fun _ i _=>l.length-(intOf i).toNat)
 case atStart=>exact⟨k+9,true,by omega,by go_num,rfl,HT.out,HB0.out,HTH0.out,HSZ.out⟩
 case round =>
  obtain⟨j,ok,hj,rfl,rfl,HJ,HB,HTH,HLT⟩:=hrel;by_cases hlt:j<l.length
  ·have hji:(j:Int)<(l.length:Int):=by omega
   cases ok with
   |true =>
    obtain⟨b,o,rfl,hc0⟩:=(HR.out.below HB.out).rune hlt;have H1:=hid (Q8Q l j hlt);have H2:=hid (Q8V l j hlt);have H3:=hid (Q93 l j hlt);have H4:=hid (Q7X l j hlt);have HQT:=hid (Qan l[j]);have HQD:=hid (Qbn S _ l.length c l j _ (HR.out.below HB.out) hlt hl9);have HSB:=hid (Qfy S _ l.length c l j _ (HR.out.below HB.out) hlt hl9);obtain⟨hg1,hg2⟩:=Q2C l j hlt;obtain⟨hs1,hs2⟩:=Q7D l j hlt;generalize (Q1a l j).1=qj at HQD H2 hg1 hg2;generalize (Q1a l j).2=qb at HQD H2;generalize (Q7A l j).1=sj at HSB H3 hs1 hs2;generalize (Q7A l j).2=sb at HSB H3;generalize l[j]=r at hc0 HQT H1 H2 H3 H4;by_cases h62:r=62
    ·have HE:Hid (Q3E l k=(7,j+1,true)):=by rw[Hid,HTT.out,HJ.out.trans (H1.out h62)]
     subst h62;clear H1 H2 H3 H4 HJ HTT HQD HSB HQT;have HL9:=hid (QF (P:=prog) (T:=185) wr w.heap.size [.int .i64 7,.int .i64 k,.int .i64 ((j:Int)+1),.bool true] HTH.out (by kernel_rfl) underlying185 rfl)
     have HB9:=hid (Qf HB.out w.heap.size (le_refl _) [.int .i64 7,.int .i64 k,.int .i64 ((j:Int)+1),.bool true] 0);obtain⟨⟨z0,hz0⟩,hf0⟩:=Q7 HTH.out 0 (by decide)
     obtain⟨⟨z1,hz1⟩,hf1⟩:=Q7 HTH.out 1 (by decide)
     obtain⟨⟨z2,hz2⟩,hf2⟩:=Q7 HTH.out 2 (by decide)
     obtain⟨⟨z3,hz3⟩,hf3⟩:=Q7 HTH.out 3 (by decide)
     go_wp2
     refine bodyPost_ret (Qw rfl _ rfl HL9.out) rfl ?_;rw[HE.out];exact⟨by simp[Q25],HB9.out⟩
    ·have h62b:(r == 62)=false:=by simpa using h62
     have HQT2:=fun W=>hid (HQT.out W)
     cases hq:Q3k r with
     |true =>
      have HN:=hid (HJ.out.trans (H2.out h62 hq));rw[hq]at HQT2;clear H1 H2 H3 H4 HJ HSB HQT h62 hq;go_wp2_with fail
      refine(HQT2 _).out.mono ?_;rintro e wx ⟨rfl,rfl⟩;go_wp2_with fail
      refine HQD.out.mono ?_;rintro e v2 ⟨rfl,hb2⟩;have HB2:=hid (HB.out.trans (hb2.mono HB.out.size));have HTH2:=hid (QK HTH.out hb2 HLT.out);have HLT2:=hid (lt_of_lt_of_le HLT.out hb2.size);clear hb2;go_wp2
      go_roundw
      case rel=>exact⟨qj,qb,by omega,rfl,rfl,HN.out,HB2.out,HTH2.out,HLT2.out⟩
      case measure=>simp[intOf];omega
     |false =>
      rw[hq]at HQT2;by_cases h91:r=91
      ·have HN:=hid (HJ.out.trans (H3.out h91))
       subst h91;clear H1 H2 H3 H4 HJ HQD HQT h62 hq;go_wp2_with fail
       refine(HQT2 _).out.mono ?_;rintro e wx ⟨rfl,rfl⟩;go_wp2_with fail
       refine HSB.out.mono ?_;rintro e v2 ⟨rfl,hb2⟩;have HB2:=hid (HB.out.trans (hb2.mono HB.out.size));have HTH2:=hid (QK HTH.out hb2 HLT.out);have HLT2:=hid (lt_of_lt_of_le HLT.out hb2.size);clear hb2;go_wp2
       go_roundw
       case rel=>exact⟨sj,sb,by omega,rfl,rfl,HN.out,HB2.out,HTH2.out,HLT2.out⟩
       case measure=>simp[intOf];omega
      ·have HN:=hid (HJ.out.trans (H4.out h62 hq h91))
       have h91b:(r == 91)=false:=by simpa using h91
       clear H1 H2 H3 H4 HJ HQD HSB HQT h62 hq h91;go_wp2_with fail
       refine(HQT2 _).out.mono ?_;rintro e wx ⟨rfl,rfl⟩;go_wp2
       go_roundw
       case rel=>exact⟨j+1,true,by omega,by go_num,rfl,HN.out,HB.out,HTH.out,HLT.out⟩
       case measure=>simp[intOf];omega
   |false =>
    have HE:Hid (Q3E l k=(7,l.length,false)):=by rw[Hid,HTT.out,HJ.out.trans (Q4J l j false (by simp))]
    clear HJ HTT;have HL9:=hid (QF (P:=prog) (T:=185) wr w.heap.size [.int .i64 7,.int .i64 k,.int .i64 (l.length),.bool false] HTH.out (by kernel_rfl) underlying185 rfl)
    have HB9:=hid (Qf HB.out w.heap.size (le_refl _) [.int .i64 7,.int .i64 k,.int .i64 (l.length),.bool false] 0);obtain⟨⟨z0,hz0⟩,hf0⟩:=Q7 HTH.out 0 (by decide)
    obtain⟨⟨z1,hz1⟩,hf1⟩:=Q7 HTH.out 1 (by decide)
    obtain⟨⟨z2,hz2⟩,hf2⟩:=Q7 HTH.out 2 (by decide)
    obtain⟨⟨z3,hz3⟩,hf3⟩:=Q7 HTH.out 3 (by decide)
    go_wp2
    refine bodyPost_ret (Qw rfl _ rfl HL9.out) rfl ?_;rw[HE.out];exact⟨by simp[Q25],HB9.out⟩
  ·have hji:¬(j:Int)<(l.length:Int):=by omega
   have HE:Hid (Q3E l k=(7,l.length,false)):=by rw[Hid,HTT.out,HJ.out.trans (Q4J l j ok (fun h=>hlt h.1))]
   clear HJ HTT;have HL9:=hid (QF (P:=prog) (T:=185) wr w.heap.size [.int .i64 7,.int .i64 k,.int .i64 (l.length),.bool false] HTH.out (by kernel_rfl) underlying185 rfl)
   have HB9:=hid (Qf HB.out w.heap.size (le_refl _) [.int .i64 7,.int .i64 k,.int .i64 (l.length),.bool false] 0);obtain⟨⟨z0,hz0⟩,hf0⟩:=Q7 HTH.out 0 (by decide)
   obtain⟨⟨z1,hz1⟩,hf1⟩:=Q7 HTH.out 1 (by decide)
   obtain⟨⟨z2,hz2⟩,hf2⟩:=Q7 HTH.out 2 (by decide)
   obtain⟨⟨z3,hz3⟩,hf3⟩:=Q7 HTH.out 3 (by decide)
   go_wp2
   refine bodyPost_ret (Qw rfl _ rfl HL9.out) rfl ?_;rw[HE.out];exact⟨by simp[Q25],HB9.out⟩
end
section
open Tryz
theorem QeT(S:Nat->Prop)(A:Option Addr)(n c:Nat)(l:List Int)(k:Nat)(w:World)(hr:Rd w S 1 A n c (rc l))(h38:l[k]?=some 38)(hl9:l.length<=1000000000) :
  Calls prog 133 #[.slice A n c,.int .i64 k] w fun e w'=>e=.returned (.tuple #[Q25 (Q1n l k) k,.bool true])/\Below w.heap.size w w':=by
 obtain rfl:=hr.rlen;have hle:=hr.le;have hmx:c<=9223372036854775807:=hr.max;obtain⟨hk,h38⟩:=List.getElem?_eq_some_iff.1 h38;obtain⟨b,o,rfl,hc0⟩:=hr.rune hk;rw[h38]at hc0;have hca:=fun ob=>Q7h (ba w ob) hc0
 have hki:¬(k:Int) ≥ (l.length:Int):=by omega
 have HRF:=fun W (h:Below w.heap.size w W)=>hid (QmC S _ _ c l k W (hr.below h) hk hl9)
 clear hr h38;generalize Q1n l k=t at HRF ⊢;obtain⟨kd,to,wh⟩:=t;have HRF:∀W,Below w.heap.size w W->Hid (Calls prog 175 #[.slice (some ⟨b,o,none⟩) l.length c,.int .i64 k] W fun e w'=>e=.returned (.agg #[.int .i64 kd,.int .i64 k,.int .i64 to,.bool wh])/\Below W.heap.size W w'):=HRF
 go_enter func133,ntmps133
 go_wp2_with fail
 have HTH0:=hid (Q2K w #[.int .i64 0,.int .i64 0,.int .i64 0,.bool false] 185);have HB0:=hid (ba w (.cells #[.int .i64 0,.int .i64 0,.int .i64 0,.bool false] 185));have HSZ:Hid (w.heap.size<(w.alloc (.cells #[.int .i64 0,.int .i64 0,.int .i64 0,.bool false] 185)).heap.size):=by simp[Hid]
 generalize w.alloc (.cells #[.int .i64 0,.int .i64 0,.int .i64 0,.bool false] 185)=W0 at HTH0 HB0 HSZ;refine(HRF _ HB0.out).out.mono ?_;rintro e w1 ⟨rfl,hb1⟩;have HB1:=hid (HB0.out.trans (hb1.mono HB0.out.size));have hth:=QK HTH0.out hb1 HSZ.out;have HL9:=hid (QF (P:=prog) (T:=185) w1 w.heap.size [.int .i64 kd,.int .i64 k,.int .i64 to,.bool wh] hth (by kernel_rfl) underlying185 rfl)
 have HB9:=hid (Qf HB1.out w.heap.size (le_refl _) [.int .i64 kd,.int .i64 k,.int .i64 to,.bool wh] 0);obtain⟨⟨z0,hz0⟩,hf0⟩:=Q7 hth 0 (by decide)
 obtain⟨⟨z1,hz1⟩,hf1⟩:=Q7 hth 1 (by decide)
 obtain⟨⟨z2,hz2⟩,hf2⟩:=Q7 hth 2 (by decide)
 obtain⟨⟨z3,hz3⟩,hf3⟩:=Q7 hth 3 (by decide)
 clear hth hb1 HTH0 HRF;go_wp2
 refine bodyPost_ret (Q4e rfl _ rfl HL9.out) rfl ?_;exact⟨rfl,HB9.out⟩
