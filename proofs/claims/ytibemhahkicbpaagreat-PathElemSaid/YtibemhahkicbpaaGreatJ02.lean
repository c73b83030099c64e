/- Lemmas, conditions told -/
import Derived.Test.YtibemhahkicbpaaGreatJ01
import Derived.Lib.AppendStr
import Derived.Lib.Builder
import Derived.Lib.UnsafeStr
import Derived.Lib.Bytealg
set_option maxRecDepth 99999
set_option maxHeartbeats 0
set_option linter.unusedSimpArgs false
set_option linter.unusedVariables false
namespace Go.Proofs.YtibemhahkicbpaaGreat
open List(map_cons map_nil)
open Lib(hid cell_of_heap)
section
open Go.RowKit Go.Lib Tryz
def Q6(l:List Int)(k:Nat)(bs:List UInt8):Bool:=bs.all (fun b=>decide (b.toNat<128))&&((l.drop k).take bs.length == bi bs)
theorem Q9f(l:List Int)(k:Nat)(bs:List UInt8)(hl:k+bs.length<=l.length)
  (h:∀i (h:i<bs.length),bs[i].toNat<128/\l[k+i]'(by omega)=bs[i].toNat):Q6 l k bs=true:=by
 rw[Q6,Bool.and_eq_true];refine⟨List.all_eq_true.2 fun b hb=>?_,?_⟩
 ·obtain⟨i,hi,rfl⟩:=List.getElem_of_mem hb
  exact decide_eq_true (h i hi).1
 ·rw[beq_iff_eq]
  apply List.ext_getElem
  ·simp[bi];omega
  ·intro i h1 h2
   rw[List.getElem_take,List.getElem_drop];have hi:i<bs.length:=by simpa[bi]using h2
   rw[(h i hi).2];simp[bi]
theorem Q9b(l:List Int)(k:Nat)(bs:List UInt8)(i:Nat)(hi:i<bs.length)(hl:k+i<l.length)(h:¬(bs[i].toNat<128/\l[k+i]=bs[i].toNat)):Q6 l k bs=false:=by
 cases hs:Q6 l k bs with
 |false=>rfl
 |true =>
  exfalso;rw[Q6,Bool.and_eq_true,beq_iff_eq]at hs;obtain⟨h1,h2⟩:=hs;refine h ⟨of_decide_eq_true (List.all_eq_true.1 h1 _ (List.getElem_mem hi)),?_⟩;have h3:=congrArg (fun x=>x[i]?) h2
  simp only[List.getElem?_take,List.getElem?_drop,hi,if_true,bi,List.getElem?_map,List.getElem?_eq_getElem hi,List.getElem?_eq_getElem hl,Option.map_some,Option.some.injEq]at h3;exact h3
theorem Q66(l:List Int)(k:Nat)(bs:List UInt8)(h:l.length<k+bs.length)(hk:k<=l.length):Q6 l k bs=false:=by
 cases hs:Q6 l k bs with
 |false=>rfl
 |true =>
  exfalso;rw[Q6,Bool.and_eq_true,beq_iff_eq]at hs;have:=congrArg List.length hs.2
  simp[bi]at this;omega
theorem Q24(S:Nat->Prop)(A:Option Addr)(n c:Nat)(l:List Int)(k:Nat)(s:ByteArray)(w:World)(hr:Rd w S 1 A n c (rc l))(hk:k<=l.length)(hk9:l.length<=1000000000)(hs9:s.size<=1000000000) :
  Calls prog 185 #[.slice A n c,.int .i64 k,.string s] w fun e w'=>e=.returned (.bool (Q6 l k s.data.toList))/\Below w.heap.size w w':=by
 obtain rfl:=hr.rlen;have hle:=hr.le;have hmx:c<=9223372036854775807:=hr.max;have HR:=hid hr;clear hr;have hsz:s.data.toList.length=s.size:=by simp
 have hkl:¬(k:Int) > (l.length:Int):=by omega
 by_cases hshort:l.length<k+s.size
 ·have HE:=hid (Q66 l k s.data.toList (by omega) hk)
  have hsh:(l.length:Int)-(k:Int)<(s.size:Int):=by omega
  go_enter func185,ntmps185
  go_wp2
  go_ret
  exact⟨QR HE.out.symm,Below.refl _ _⟩
 ·have hsh:¬(l.length:Int)-(k:Int)<(s.size:Int):=by omega
  go_enter func185,ntmps185
  go_wp2
  go_loopw [27] (fun i wr=>∃j:Nat,j<=s.size/\i=.int .i64 j/\Hid (Below w.heap.size w wr)/\Hid (∀i,i<j->(h1:i<s.data.toList.length)->(h2:k+i<l.length)->s.data.toList[i].toNat<128/\l[k+i]=s.data.toList[i].toNat)) (fun i _=>s.size-(intOf i).toNat)
  case atStart=>exact⟨0,Nat.zero_le _,rfl,Below.refl _ _,fun i h=>absurd h (by omega)⟩
  case round =>
   obtain⟨j,hj,rfl,HB,HJ⟩:=hrel;by_cases hlt:j<s.size
   ·have hlt2:j<s.data.toList.length:=by omega
    have hlt3:j<s.data.size:=hlt;have hkj:k+j<l.length:=by omega
    have hkj':(k:Int)+(j:Int)<(l.length:Int):=by omega
    obtain⟨b,o,rfl,hc0⟩:=(HR.out.below HB.out).rune hkj;have hx:s.data.toList[j]=s.data[j]:=by simp
    have hb:=(s.data[j]).toNat_lt
    have hw:wrap32 ((s[j]).toNat:Int)=((s.data[j]).toNat:Int):=by
     show wrap32 ((s.data[j]).toNat:Int)=_;rw[<-IntWalk.i32_left];exact IntWalk.i32_in _ (by omega)
    have HM:=hid (Q9b l k s.data.toList j hlt2 hkj);have HX:=hid hx;rw[hx]at HM
    have HJ2:(s.data[j]).toNat<128->l[k+j]=(s.data[j]).toNat->Hid (∀i,i<j+1->(h1:i<s.data.toList.length)->(h2:k+i<l.length)->s.data.toList[i].toNat<128/\l[k+i]=s.data.toList[i].toNat):=fun e1 e2 i hi h1 h2=>by
     by_cases e:i=j
     ·subst e;rw[HX.out];exact⟨e1,e2⟩
     ·exact HJ.out i (by omega) h1 h2
    clear hx;generalize l[k+j]=r at hc0 HM HJ2;by_cases h128:(s.data[j]).toNat<128
    ·have hge:¬((s.data[j]).toNat:Int) ≥ 128:=by omega
     have hge3:decide ((128:Int)<=((s[j]).toNat:Int))=false:=by show decide ((128:Int)<=((s.data[j]).toNat:Int))=false;rw[decide_eq_false_iff_not];omega
     by_cases hrb:r=(s.data[j]).toNat
     ·have HJ3:=HJ2 h128 hrb
      have hn:(r != ((s.data[j]).toNat:Int))=false:=by simpa using hrb
      clear HJ2 HM;go_wp2
      go_quiet (fail)
      go_wp2
      go_roundw
      case rel=>exact⟨j+1,by omega,by go_num,Q1F HB.out _,HJ3.out⟩
      case measure=>simp[intOf];omega
     ·have HE:Hid (Q6 l k s.data.toList=false):=HM.out fun h=>hrb h.2
      have hn:(r != ((s.data[j]).toNat:Int))=true:=by simpa using hrb
      clear HJ2 HM;go_wp2
      go_quiet (fail)
      go_wp2
      go_ret
      exact⟨QR HE.out.symm,Q1F HB.out _⟩
    ·have hge:((s.data[j]).toNat:Int) ≥ 128:=by omega
     have hge3:decide ((128:Int)<=((s[j]).toNat:Int))=true:=by show decide ((128:Int)<=((s.data[j]).toNat:Int))=true;rw[decide_eq_true_iff];omega
     have HE:Hid (Q6 l k s.data.toList=false):=HM.out fun h=>h128 h.1
     clear HJ2 HM;go_wp2
     go_quiet (fail)
     go_wp2
     go_ret
     exact⟨QR HE.out.symm,Q1F HB.out _⟩
   ·have HE:Hid (Q6 l k s.data.toList=true):=Q9f l k _ (by omega) fun i h=>HJ.out i (by omega) h (by omega)
    go_wp2
    go_ret
    exact⟨QR HE.out.symm,HB.out⟩
def Q3Z(l:List Int)(k t:Nat)(bs:List UInt8):Option Nat:=(List.range' k (t+1-bs.length-k)).find? (fun i=>Q6 l i bs)
theorem Qc7(l:List Int)(k t:Nat)(bs:List UInt8)(j:Nat)(hk:k<=j)(ht:j+bs.length<=t)(h:∀i,k<=i->i<j->Q6 l i bs=false)(hj:Q6 l j bs=true):Q3Z l k t bs=some j:=by
 rw[Q3Z,List.find?_range'_eq_some];exact⟨hj,List.mem_range'_1.2 ⟨hk,by omega⟩,fun i h1 h2=>by rw[h i h1 h2];rfl⟩
theorem Qb0(l:List Int)(k t:Nat)(bs:List UInt8)(h:∀i,k<=i->i+bs.length<=t->Q6 l i bs=false):Q3Z l k t bs=none:=by
 rw[Q3Z,List.find?_eq_none];intro i hi;have:=List.mem_range'_1.1 hi
 rw[h i this.1 (by omega)]
 decide
theorem QhG(S:Nat->Prop)(A:Option Addr)(n c:Nat)(l:List Int)(k t:Nat)(s:ByteArray)(w:World)(hr:Rd w S 1 A n c (rc l))(hk:k<=l.length)(ht:t<=l.length)(hk9:l.length<=1000000000)(hs9:s.size<=1000000000) :
  Calls prog 224 #[.slice A n c,.int .i64 k,.int .i64 t,.string s] w fun e w'=>e=.returned (.tuple #[.int .i64 ((Q3Z l k t s.data.toList).getD 0),.bool (Q3Z l k t s.data.toList).isSome])/\Below w.heap.size w w':=by
 obtain rfl:=hr.rlen;have hle:=hr.le;have hmx:c<=9223372036854775807:=hr.max;have HR:=hid hr;clear hr;have hkl:¬(k:Int) > (l.length:Int):=by omega
 have htl:¬(t:Int) > (l.length:Int):=by omega
 have hsz:s.data.toList.length=s.size:=by simp
 have HS:=fun W (j:Nat) (hj:j<=l.length) (h:Below w.heap.size w W)=>hid (Q24 S A l.length c l j s W (HR.out.below h) hj hk9 hs9)
 have HH:=hid (Qc7 l k t s.data.toList);have HN:=hid (Qb0 l k t s.data.toList);generalize Q3Z l k t s.data.toList=q at HH HN ⊢;go_enter func224,ntmps224
 go_wp2
 go_loopw [10] (fun i wr=>∃j:Nat,k<=j/\j<=l.length+1/\i=.int .i64 j/\Hid (Below w.heap.size w wr)/\Hid (∀i,k<=i->i<j->Q6 l i s.data.toList=false)) (fun i _=>l.length+1-(intOf i).toNat)
 case atStart=>exact⟨k,Nat.le_refl _,by omega,rfl,Below.refl _ _,fun i h1 h2=>absurd h2 (by omega)⟩
 case round =>
  obtain⟨j,hj1,hj2,rfl,HB,HJ⟩:=hrel;by_cases hlt:j+s.size<=t
  ·have hlt2:(j:Int)<=(t:Int)-(s.size:Int):=by omega
   have HC:=HS _ j (by omega) HB.out
   cases hq:Q6 l j s.data.toList with
   |true =>
    rw[hq]at HC;have HE:Hid (q=some j):=HH.out j hj1 (by omega) HJ.out hq
    clear hq;go_wp2_with (go_at_call 185;refine HC.out.mono ?_;rintro e w' ⟨rfl,hb⟩);go_ret2
    rw[HE.out];exact⟨rfl,HB.out.trans (hb.mono HB.out.size)⟩
   |false =>
    rw[hq]at HC
    have HJ2:Hid (∀i,k<=i->i<j+1->Q6 l i s.data.toList=false):=fun i h1 h2=>by
     by_cases e:i=j
     ·subst e;exact hq
     ·exact HJ.out i h1 (by omega)
    clear hq;go_wp2_with (go_at_call 185;refine HC.out.mono ?_;rintro e w' ⟨rfl,hb⟩);go_roundw
    case rel=>exact⟨j+1,by omega,by omega,by go_num,HB.out.trans (hb.mono HB.out.size),HJ2.out⟩
    case measure=>simp[intOf];omega
  ·have hlt2:¬(j:Int)<=(t:Int)-(s.size:Int):=by omega
   have HE:Hid (q=none):=HN.out fun i h1 h2=>HJ.out i h1 (by omega)
   go_wp2
   go_ret2
   rw[HE.out];exact⟨rfl,HB.out⟩
def I32(l:List Int):Prop:=∀x∈l,-2147483648<=x/\x<=2147483647
theorem Qf0(S:Nat->Prop)(A:Option Addr)(n c:Nat)(l:List Int)(k:Nat)(s:ByteArray)(w:World)(hr:Rd w S 1 A n c (rc l))(hk:k<=l.length)(hk9:l.length<=1000000000)(hs9:s.size<=1000000000)(hi:I32 l) :
  Calls prog 151 #[.slice A n c,.int .i64 k,.string s] w fun e w'=>e=.returned (.bool (Q6 l k s.data.toList))/\Below w.heap.size w w':=by
 obtain rfl:=hr.rlen;have hle:=hr.le;have hmx:c<=9223372036854775807:=hr.max;have HR:=hid hr;have HI:=hid hi;clear hr hi;have hsz:s.data.toList.length=s.size:=by simp
 have hkl:¬(k:Int) > (l.length:Int):=by omega
 by_cases hshort:l.length<k+s.size
 ·have HE:=hid (Q66 l k s.data.toList (by omega) hk)
  have hsh:(s.size:Int) > (l.length:Int)-(k:Int):=by omega
  go_enter func151,ntmps151
  go_wp2
  go_ret
  exact⟨QR HE.out.symm,Below.refl _ _⟩
 ·have hsh:¬(s.size:Int) > (l.length:Int)-(k:Int):=by omega
  go_enter func151,ntmps151
  go_wp2
  go_loopw [7] (fun i wr=>∃j:Nat,j<=s.size/\i=.int .i64 j/\Hid (Below w.heap.size w wr)/\Hid (∀i,i<j->(h1:i<s.data.toList.length)->(h2:k+i<l.length)->s.data.toList[i].toNat<128/\l[k+i]=s.data.toList[i].toNat)) (fun i _=>s.size-(intOf i).toNat)
  case atStart=>exact⟨0,Nat.zero_le _,rfl,Below.refl _ _,fun i h=>absurd h (by omega)⟩
  case round =>
   obtain⟨j,hj,rfl,HB,HJ⟩:=hrel;by_cases hlt:j<s.size
   ·have hlt2:j<s.data.toList.length:=by omega
    have hlt3:j<s.data.size:=hlt;have hkj:k+j<l.length:=by omega
    have hkj':(k:Int)+(j:Int)<(l.length:Int):=by omega
    obtain⟨b,o,rfl,hc0⟩:=(HR.out.below HB.out).rune hkj;have hx:s.data.toList[j]=s.data[j]:=by simp
    have hb:=(s.data[j]).toNat_lt
    have hw:wrap64 ((s[j]).toNat:Int)=((s.data[j]).toNat:Int):=by
     show wrap64 ((s.data[j]).toNat:Int)=_;exact IntWalk.wrap64_in _ (by omega)
    have hri:=HI.out _ (List.getElem_mem hkj);have HM:=hid (Q9b l k s.data.toList j hlt2 hkj);have HX:=hid hx;rw[hx]at HM
    have HJ2:(s.data[j]).toNat<128->l[k+j]=(s.data[j]).toNat->Hid (∀i,i<j+1->(h1:i<s.data.toList.length)->(h2:k+i<l.length)->s.data.toList[i].toNat<128/\l[k+i]=s.data.toList[i].toNat):=fun e1 e2 i hi h1 h2=>by
     by_cases e:i=j
     ·subst e;rw[HX.out];exact⟨e1,e2⟩
     ·exact HJ.out i (by omega) h1 h2
    clear hx;generalize l[k+j]=r at hc0 HM HJ2 hri;by_cases h128:(s.data[j]).toNat<128
    ·have hge:¬((s.data[j]).toNat:Int) > 127:=by omega
     have hge3:decide ((127:Int)<((s[j]).toNat:Int))=false:=by show decide ((127:Int)<((s.data[j]).toNat:Int))=false;rw[decide_eq_false_iff_not];omega
     by_cases hrb:r=(s.data[j]).toNat
     ·have HJ3:=HJ2 h128 hrb
      have hn:(r != ((s.data[j]).toNat:Int))=false:=by simpa using hrb
      clear HJ2 HM;go_wp2
      go_quiet (fail)
      go_wp2
      go_roundw
      case rel=>exact⟨j+1,by omega,by go_num,Q1F HB.out _,HJ3.out⟩
      case measure=>simp[intOf];omega
     ·have HE:Hid (Q6 l k s.data.toList=false):=HM.out fun h=>hrb h.2
      have hn:(r != ((s.data[j]).toNat:Int))=true:=by simpa using hrb
      clear HJ2 HM;go_wp2
      go_quiet (fail)
      go_wp2
      go_ret
      exact⟨QR HE.out.symm,Q1F HB.out _⟩
    ·have hge:((s.data[j]).toNat:Int) > 127:=by omega
     have hge3:decide ((127:Int)<((s[j]).toNat:Int))=true:=by show decide ((127:Int)<((s.data[j]).toNat:Int))=true;rw[decide_eq_true_iff];omega
     have HE:Hid (Q6 l k s.data.toList=false):=HM.out fun h=>h128 h.1
     clear HJ2 HM;go_wp2
     go_quiet (fail)
     go_wp2
     go_ret
     exact⟨QR HE.out.symm,Q1F HB.out _⟩
   ·have HE:Hid (Q6 l k s.data.toList=true):=Q9f l k _ (by omega) fun i h=>HJ.out i (by omega) h (by omega)
    go_wp2
    go_ret
    exact⟨QR HE.out.symm,HB.out⟩
def Q10(l:List Int):List UInt8:=l.flatMap Q2I
theorem Qcy(r:Int)(h:0<Qr r):Qg8 r=encodeRune r:=by
 unfold Qr at h;split at h
 ·omega
 ·rename_i h1
  have hv:Utf8.valid r=true:=by simp[Utf8.valid];omega
  by_cases h2:r<128
  ·rw[Qgc r (by omega) h2,encodeRune,encodeRuneZ_one (by omega) (by omega)];rfl
  ·unfold Qg8 Utf8.encode
   simp only[hv,if_true];rw[if_neg (by omega)]
   by_cases h3:r<2048
   ·rw[if_pos (by omega),encodeRune,encodeRuneZ_two (by omega) (by omega)]
    simp only[map_cons,map_nil];rw[show((192+r / 64).toNat)=192+r.toNat / 64 by omega,show((128+r % 64).toNat)=128+r.toNat % 64 by omega]
   ·rw[if_neg (by omega)]
    by_cases h4:r<65536
    ·rw[if_pos (by omega),encodeRune,encodeRuneZ_three (by omega)]
     simp only[map_cons,map_nil];rw[show((224+r / 4096).toNat)=224+r.toNat / 4096 by omega,show((128+r / 64 % 64).toNat)=128+r.toNat / 64 % 64 by omega,show((128+r % 64).toNat)=128+r.toNat % 64 by omega]
    ·rw[if_neg (by omega),encodeRune,encodeRuneZ_four (by omega) (by omega)]
     simp only[map_cons,map_nil];rw[show((240+r / 262144).toNat)=240+r.toNat / 262144 by omega,show((128+r / 4096 % 64).toNat)=128+r.toNat / 4096 % 64 by omega,show((128+r / 64 % 64).toNat)=128+r.toNat / 64 % 64 by omega,show((128+r % 64).toNat)=128+r.toNat % 64 by omega]
theorem Qca(r:Int):(Q2I r).length<=4:=by
 unfold Q2I;split
 ·simp
 ·rw[Q47 r (by omega)];unfold Qr;repeat' split
  all_goals omega
theorem Qiq(r:Int)(h:0<Qr r):(Utf8.encode r).data.toList=Q2I r:=by rw[Q2I,if_neg (by omega)];exact Qcy r h
theorem Q7T(l:List Int):(Q10 l).length<=4 * l.length:=by
 induction l with
 |nil=>simp[Q10]
 |cons r t ih =>
  have:=Qca r
  simp only[Q10,List.flatMap_cons,List.length_append,List.length_cons]at ih ⊢;omega
theorem Qf7(l:List Int)(k:Nat)(h:k<l.length):Q10 (l.take (k+1))=Q10 (l.take k)++Q2I l[k]:=by
 rw[Q10,Q10,List.take_succ_eq_append_getElem h,List.flatMap_append];simp
theorem QnW:(prog.info? 5).map (fun i=>(i.zero,i.size,i.bytes))=some (some (.int .u8 0),1,1):=by kernel_rfl
theorem Qdp(w:World){ops:Array Oper}{rest:List Oper}{o:Oper}{a:Act}{Q:Exit->Act->World->Prop}(hgd:o.guard=none)(s x:Operand)
  (ho:o.op=.call { callee:=.builtin .append,args:=#[s,x],argTypes:=#[22,22] })
  (base:Nat) (v:Value) (n:Nat) (xs:List UInt8) (hs:a.eval s=v) (hown:w.ownsRow base 5 1 v n (bc xs))
  (S:Nat->Prop) (A:Option Addr) (m c:Nat) (ys:List UInt8) (hx:a.eval x=.slice A m c) (hr:Rd w S 1 A m c (bc ys))
  (hlen:n+m<=1000000000) (hbase:base<=w.heap.size)
  (h:∀A' c' w',w'.ownsRow base 5 1 (.slice A' (n+m) c') (n+m) (bc (xs++ys))->w.grownBy w' v.ownBlock ->
    c'<=9223372036854775807->wpList prog ops Q rest (a.put o.dst (.slice A' (n+m) c')) w') :
  wpList prog ops Q (o::rest) a w:=by
 obtain⟨i0,hi,hz0,hz1,hz2⟩:=info_parts QnW;refine Q3d w hgd s x 22 ho base 5 i0 _ 1 1 underlying22 hi hz0 hz1 hz2 rfl (by omega) v n (bc xs) hs hown S A m c (bc ys) hx hr (Qow ys) (by simp only[maxLen];omega) (by omega) hbase ?_
 intro v' w' h1 h2 h3;obtain⟨A',c',rfl,hr'⟩:=Q1C h1;exact h A' c' w' (by simpa[bc]using h1) h2 hr'.max
theorem Qgm(w:World){ops:Array Oper}{rest:List Oper}{o:Oper}{a:Act}{Q:Exit->Act->World->Prop}(hgd:o.guard=none)(s x:Operand)
  (ho:o.op=.call { callee:=.builtin .append,args:=#[s,x],argTypes:=#[22,9] })
  (base:Nat) (v:Value) (n:Nat) (xs:List UInt8) (hs:a.eval s=v) (hown:w.ownsRow base 5 1 v n (bc xs))
  (str:ByteArray) (hx:a.eval x=.string str) (hlen:n+str.size<=1000000000) (hbase:base<=w.heap.size)
  (h:∀A' c' w',w'.ownsRow base 5 1 (.slice A' (n+str.size) c') (n+str.size) (bc (xs++str.data.toList))->w.grownBy w' v.ownBlock ->
    c'<=9223372036854775807->wpList prog ops Q rest (a.put o.dst (.slice A' (n+str.size) c')) w') :
  wpList prog ops Q (o::rest) a w:=by
 obtain⟨i0,hi,hz0,hz1,hz2⟩:=info_parts QnW;refine wpList_append_own_string w hgd s x 22 9 ho base 5 i0 underlying22 underlying9 hi hz0 hz1 hz2 v n (bc xs) hs hown str hx (by simp only[maxLen];omega) (by omega) hbase ?_
 intro v' w' h1 h2 h3;obtain⟨A',c',rfl,hr'⟩:=Q1C h1;exact h A' c' w' (by simpa[bc,strCells]using h1) h2 hr'.max
theorem QaG{w:World}{base:Nat}{e:TypeId}{v:Value}{n:Nat}{xs:List UInt8}(h:w.ownsRow base e 1 v n (bc xs)):n=xs.length:=by have:=h.1;simpa using this.symm
theorem Qi5(S:Nat->Prop)(A:Option Addr)(n c:Nat)(l:List Int)(w:World)(hr:Rd w S 1 A n c (rc l))(hn9:l.length<=100000000) :
  Calls prog 105 #[.slice A n c] w fun e w'=>∃v,e=.returned v/\(∃n',w'.ownsRow w.heap.size 5 1 v n' (bc (Q10 l)))/\Below w.heap.size w w':=by
 obtain rfl:=hr.rlen;have hle:=hr.le;have hmx:c<=9223372036854775807:=hr.max;have HR:=hid hr;clear hr;go_enter func105,ntmps105
 go_wp2
 go_loopw [3,8] (fun v i wr=>∃(k:Nat),k<=l.length/\i=.int .i64 k/\Hid (∃n',wr.ownsRow w.heap.size 5 1 v n' (bc (Q10 (l.take k))))/\Hid (Below w.heap.size w wr))
  (fun _ i _=>l.length-(intOf i).toNat)
 case atStart=>exact⟨0,Nat.zero_le _,rfl,⟨0,World.ownsRow_nil w w.heap.size 5 1⟩,Below.refl _ _⟩
 case round =>
  obtain⟨k,hk,rfl,HO,HB⟩:=hrel;obtain⟨no,HO⟩:=HO.out;have hno:=QaG HO;have hno2:no<=400000000:=by have:=Q7T (l.take k);simp at this;omega
  clear hno;obtain⟨Ao,co,rfl,hro⟩:=Q1C HO;have hco2:co<=9223372036854775807:=hro.max;have HO:=hid HO;clear hro;by_cases hlt:k<l.length
  ·obtain⟨b,u,rfl,hc0⟩:=(HR.out.below HB.out).rune hlt
   have HST:=hid (Qf7 l k hlt);have HW:=fun w=>hid (Q8P l[k] w)
   have HE:=hid (Qiq l[k]);have hes:=Qca l[k];have HZ:=hid (fun(h:Qr l[k]=0)=>(by rw[Q2I,if_pos h]:Q2I l[k]=[]))
   generalize l[k]=r at hc0 HST HW HE hes HZ;by_cases h0:Qr r=0
   ·have hw0:¬((Qr r:Nat):Int) > 0:=by omega
    have HZ2:=hid (HZ.out h0);clear HZ HE h0;generalize Qr r=wd at HW hw0;go_wp2_with (go_at_call 145;refine(HW _).out.mono ?_;rintro e w' ⟨rfl,rfl⟩);go_roundw
    case rel=>exact⟨k+1,by omega,by go_num,⟨_,by rw[HST.out,HZ2.out,List.append_nil];exact HO.out⟩,HB.out⟩
    case measure=>simp[intOf];omega
   ·have hw0:((Qr r:Nat):Int) > 0:=by omega
    have HE2:=hid (HE.out (by omega))
    have hsz:(Utf8.encode r).size<=4:=by
     have e:(Utf8.encode r).data.toList.length=(Utf8.encode r).size:=by simp
     rw[<-e,HE2.out];exact hes
    clear HZ HE h0;generalize Qr r=wd at HW hw0
    go_wp2_with (first
     |(go_at_call 145;refine(HW _).out.mono ?_;rintro e w' ⟨rfl,rfl⟩)
     |(at_builtin
       refine Qgm _ rfl (.tmp 15) (.tmp 17) rfl w.heap.size _ _ _ rfl HO.out (Utf8.encode r) rfl (by omega) HB.out.size ?_
       intro A4 c4 w4 hown4 hg4 _;have hb4:=Q5O HB.out HB.out.size HO.out hg4;rw[HE2.out]at hown4;have HB4:=hid hb4;have HO4:=hid hown4;clear hown4 hg4 hb4))
    go_roundw
    case rel=>exact⟨k+1,by omega,by go_num,⟨_,by rw[HST.out];exact HO4.out⟩,HB4.out⟩
    case measure=>simp[intOf];omega
  ·have e:l.take k=l:=List.take_of_length_le (by omega)
   rw[e]at HO;go_wp2
   go_ret
   exact⟨_,rfl,⟨_,HO.out⟩,HB.out⟩
end
section
open Go.RowKit Go.Lib
def Q6n(r:Int):Bool:=(Q5u r).2
def Q7w(r:Int):Bool:=(QaY r).2
def Q1y(l:List Int)(p n:Nat):Bool:=decide (0<n)&&(l[p+n]? == some 59)
def Q5o(l:List Int)(k:Nat):Nat:=((l.drop (k+2)).takeWhile Q6n).length
def Q62(l:List Int)(k:Nat):Nat:=((l.drop (k+3)).takeWhile Q7w).length
def Q1n(l:List Int)(k:Nat):Nat×Nat×Bool :=
 if Q6 l k [38,35,120]&&Q1y l (k+3) (Q62 l k)then(3,k+4+Q62 l k,true)
 else if Q6 l k [38,35]&&Q1y l (k+2) (Q5o l k)then(3,k+3+Q5o l k,true)
 else if Q1y l (k+1) (Qj l (k+1))then(2,k+2+Qj l (k+1),true)
 else(11,k+1,false)
theorem QfB(l:List Int)(k p:Nat):Qj l (k+p)=Qj (l.drop k) p:=by
 rw[Qj,Qj,List.getElem?_drop,List.drop_drop]
theorem QjE(l:List Int)(k:Nat):k<(Q1n l k).2.1:=by
 unfold Q1n;repeat' split
 all_goals (simp only;omega)
theorem Qao(l:List Int)(p n:Nat)(h:Q1y l p n=true):p+n<l.length:=by
 rw[Q1y,Bool.and_eq_true,beq_iff_eq]at h;exact(List.getElem?_eq_some_iff.1 h.2).1
theorem QnJ(l:List Int)(k:Nat)(hk:k<l.length):(Q1n l k).2.1<=l.length:=by
 unfold Q1n;split
 ·rename_i h
  have:=Qao _ _ _ (Bool.and_eq_true_iff.1 h).2
  simp only;omega
 ·split
  ·rename_i h
   have:=Qao _ _ _ (Bool.and_eq_true_iff.1 h).2
   simp only;omega
  ·split
   ·rename_i h
    have:=Qao _ _ _ h
    simp only;omega
   ·simp only;omega
end
section
open Go.RowKit Go.Lib Tryz
theorem QgL:(prog.info? 162).map (·.size)=some 2:=by kernel_rfl
theorem Qmt:liesAt prog prog.depth 162 (2 / prog.cellsOf 162) 0 162 1=true:=by kernel_rfl
theorem Qdz:prog.cellsOf 5=1:=by kernel_rfl
theorem Qnc(b:Nat)(w:World)(h0:w.cell? ⟨b,0,none⟩=some (.pointer (some ⟨b,0,none⟩))) :
  Calls prog 128 #[.pointer (some ⟨b,0,none⟩)] w fun e w'=>e=.returned (.tuple #[])/\w'=w:=by
 obtain⟨j,hj,_⟩:=Option.map_eq_some_iff.1 QgL;go_enter func128,ntmps128
 go_wp2
 rw[Lib.run_neq_ptr_same w _ underlying160 hj];go_wp2
 go_end0
 exact⟨rfl,rfl⟩
theorem Qk5(b:Nat)(w:World)(h0:w.cell? ⟨b,0,none⟩=some (.pointer none))(hsh:w.shape? b=some (162,2))(hfz:w.frozen? ⟨b,0,none⟩=false) :
  Calls prog 128 #[.pointer (some ⟨b,0,none⟩)] w fun e w'=>e=.returned (.tuple #[])/\w'=w.setCell ⟨b,0,none⟩ (.pointer (some ⟨b,0,none⟩)):=by
 obtain⟨j,hj,hjs⟩:=Option.map_eq_some_iff.1 QgL;go_enter func128,ntmps128
 go_wp2
 rw[Lib.run_to_unsafe w ⟨b,0,none⟩ underlying160 underlying252 hj (by rw[hjs];decide) hsh (Nat.zero_lt_succ 1)]
 simp only[Result.andThen];rw[Oper.upon_value];go_wp2
 rw[run_callFunc_extern func160 (by kernel_rfl) (by kernel_rfl) (by kernel_rfl) (e:=Extern.AbiNoEscape.same) (by kernel_rfl)]
 rw[Lib.run_noEscape];simp only[Result.andThen];rw[Oper.upon_value];go_wp2
 rw[Lib.run_from_unsafe w ⟨b,0,none⟩ underlying252 underlying160 hj hsh Qmt];simp only[Result.andThen];rw[Oper.upon_value];go_wp2
 go_end0
 exact⟨rfl,rfl⟩
def Sb(B b:Nat)(xs:List UInt8)(w:World):Prop:=Lib.IsBuilder 162 5 B b (bc xs) w
theorem QoX(B b:Nat)(xs:List UInt8)(w:World)(h:Sb B b xs w) :
  Calls prog 128 #[.pointer (some ⟨b,0,none⟩)] w fun e w'=>e=.returned (.tuple #[])/\Lib.BuilderAt 162 5 B b (.pointer (some ⟨b,0,none⟩)) (bc xs) w'/\Below B w w'/\∀k,k≠b->w'.heap[k]?=w.heap[k]?:=by
 rcases h with h|h
 ·refine(Qk5 b w h.cell0 h.shape h.frozen0).mono ?_
  rintro e w' ⟨rfl,rfl⟩;exact⟨rfl,h.used _,(Below.refl B w).setCell (p:=⟨b,0,none⟩) h.1 _,fun k hk=>Below.heap_setCell _ _ _ _ hk⟩
 ·refine(Qnc b w h.cell0).mono ?_
  rintro e w' ⟨rfl,rfl⟩;exact⟨rfl,h,Below.refl B _,fun _ _=>rfl⟩
theorem QdV(S:Nat->Prop)(A:Option Addr)(n c B b:Nat)(xs ys:List UInt8)(w:World)(h:Sb B b xs w)(hr:Rd w S 1 A n c (bc ys))(hS:¬S b)(hlen:xs.length+ys.length<=1000000000)(hBw:B<=w.heap.size) :
  Calls prog 104 #[.pointer (some ⟨b,0,none⟩),.slice A n c] w fun e w'=>e=.returned (.tuple #[.int .i64 n,.nilIface])/\Sb B b (xs++ys) w'/\Below B w w':=by
 have hn:n=ys.length:=by have:=hr.len;simpa using this.symm
 subst hn;have HR:=hid hr;have hcm:c<=9223372036854775807:=hr.max;have hle:=hr.le;clear hr;go_enter func104,ntmps104
 go_wp2_with (go_at_call 128;refine(QoX B b xs w h).mono ?_);rintro e w1 ⟨rfl,h1,hb1,hk1⟩;obtain⟨hB,v,hbk,hown,hne⟩:=h1;have c0:w1.cell? ⟨b,0,none⟩=some (.pointer (some ⟨b,0,none⟩)):=by rw[cell_of_heap hbk];rfl
 have c1:w1.cell? ⟨b,1,none⟩=some v:=by rw[cell_of_heap hbk];rfl
 have HR1:=hid (HR.out.keep fun k hk _=>hk1 k (fun e=>hS (e ▸ hk)))
 have hs1:B<=w1.heap.size:=by have:=hb1.size;omega
 have hxl:(bc xs).length=xs.length:=by simp
 rw[hxl]at hown;obtain⟨A0,c2,rfl,hro⟩:=Q1C hown;have hc2m:c2<=9223372036854775807:=hro.max;have HO:=hid hown;clear hown hro hk1 HR h;go_wp2_with (at_builtin;refine Qdp _ rfl (.tmp 12) (.tmp 13) rfl B _ _ _ rfl HO.out S _ _ _ ys rfl HR1.out (by omega) hs1 ?_)
 intro A4 c4 w4 hown4 hg4 hc4
 have hlt:b<w1.heap.size:=by
  rcases Nat.lt_or_ge b w1.heap.size with h'|h'
  ·exact h'
  ·simp[Array.getElem?_eq_none h']at hbk
 have hb2:w4.heap[b]?=some (.cells #[.pointer (some ⟨b,0,none⟩),.slice A0 xs.length c2] 162 (0,0)):=by
  rw[hg4.block b hlt (fun e=>hne e.symm)]
  exact hbk
 have d0:w4.cell? ⟨b,0,none⟩=some (.pointer (some ⟨b,0,none⟩)):=by rw[cell_of_heap hb2];rfl
 have d1:w4.cell? ⟨b,1,none⟩=some (.slice A0 xs.length c2):=by rw[cell_of_heap hb2];rfl
 have f1:w4.frozen? ⟨b,1,none⟩=false:=Lib.frozen_of_heap hb2 1;have HB4:=hid (Q5O hb1 hs1 HO.out hg4);have HO4:=hid hown4;clear hown4 hg4;go_wp2
 go_ret2
 refine⟨rfl,.inr ?_,HB4.out.setCell (p:=⟨b,1,none⟩) hB _⟩;exact Lib.BuilderAt.put hB hb2 (by simpa[bc]using HO4.out) (by decide)
theorem Qdy(B b:Nat)(l:List UInt8)(w:World)(h:Sb B b l w)(h0:l≠[]) :
  Calls prog 79 #[.pointer (some ⟨b,0,none⟩)] w fun e w'=>e=.returned (.string ⟨l.toArray⟩)/\Below B w w':=by
 obtain⟨p,hB,v,hbk,hown,hne⟩:∃p,Lib.BuilderAt 162 5 B b p (bc l) w:=by
  rcases h with h|h
  ·exact⟨_,h⟩
  ·exact⟨_,h⟩
 have hl0:l.length≠0:=by simpa using h0
 have hxl:(bc l).length=l.length:=by simp
 rw[hxl]at hown
 obtain⟨g,cap,cur,rfl,hbg,hg,hnc,hcm,hcs,htake⟩:∃g cap cur,v=.slice (some ⟨g,0,none⟩) l.length cap/\B<=g/\w.heap[g]?=some (.cells cur 5 (0,0))/\l.length<=cap/\cap<=maxLen/\cur.size=cap * 1/\cur.toList.take (l.length * 1)=bc l:=by
  rcases hown.2 with ⟨_,hz⟩|⟨g,cap,cur,hv,r⟩
  ·exact absurd hz hl0
  ·exact⟨g,cap,cur,hv,r⟩
 have c1:w.drew.cell? ⟨b,1,none⟩=some (.slice (some ⟨g,0,none⟩) l.length cap):=by
  have:w.drew.heap[b]?=some (.cells #[p,.slice (some ⟨g,0,none⟩) l.length cap] 162 (0,0)):=hbk
  rw[cell_of_heap this];rfl
 have hSD:(Builtin.unsafeSliceData_ #[22] 225 #[.slice (some ⟨g,0,none⟩) l.length cap]).run prog w.drew=.ok (.pointer (some ⟨g,0,none⟩)) w.drew :=
  Lib.run_unsafeSliceData_row _ _ _ _ _ _ (by omega)
 have hUS:(Builtin.unsafeString_ #[225,3] 9 #[.pointer (some ⟨g,0,none⟩),.int .i64 l.length]).run prog w.drew=.ok (.string ⟨l.toArray⟩) (w.drew.freeze ⟨g,0,none⟩ l.length):=by
  refine Lib.run_unsafeString_row w.drew 225 3 9 5 underlying225 Qdz g cur.size (by have hg':w.drew.heap[g]?=some (.cells cur 5 (0,0)):=hg;simp[World.shape?,hg']) l h0 (by omega) (by unfold maxLen at hcm;omega) ?_
  intro j x hx;have:=hown.cells (g:=g) rfl j (.int .u8 x.toNat) (by simp[bc,hx])
  exact this
 go_enter func79,ntmps79
 go_wp2
 go_region
 all_goals (go_wp2;go_ret;exact⟨rfl,Lib.below_freeze (Below.drew (Below.refl B w)) (p:=⟨g,0,none⟩) hbg _⟩)
end
section
open Go.RowKit Tryz
def QaF(r:Int):Bool:=r == 9||r == 10||r == 13||r == 32
theorem Qg5(r:Int):QaF r=Qd r:=by
 unfold QaF Qd;cases(r == 9)<;>cases(r == 10)<;>cases(r == 13)<;>cases(r == 32)<;>rfl
theorem Qgp(r:Int)(w:World):Calls prog 187 #[.int .i32 r] w fun e w'=>e=.returned (.bool (Qd r))/\w=w':=by
 rw[<-Qg5];go_enter func187,ntmps187
 go_wp2
 all_goals (go_ret;exact⟨QR (by simp[QaF, *]),rfl⟩)
end
section
open Go.RowKit Go.Lib
theorem Rd.setB{w:World}{S:Nat->Prop}{n c:Nat}{xs:List Value}{b o:Nat}(h:Rd w S 1 (some ⟨b,o,none⟩) n c xs){k:Nat}(hk:k<n)(v:Value) :
  Rd (w.setCell ⟨b,o+k,none⟩ v) S 1 (some ⟨b,o,none⟩) n c (xs.set k v):=by
 have jE:=h.len;refine⟨by simpa using h.len,h.le,h.max,(fun e=>by cases e),fun h0=>?_⟩
 obtain⟨b',o',e,hS,hc⟩:=h.at_ h0;injection e with e
 injection e with e1 e2
 subst e1 e2;refine⟨b,o,rfl,hS,fun j u hu=>?_⟩
 have qY:k<xs.length:=by omega
 by_cases hj:k=j
 ·subst hj
  rw[List.getElem?_set_self qY]at hu;injection hu with hu
  subst hu;exact World.cell?_setCell_same _ _ _ (hc k _ (List.getElem?_eq_getElem qY))
 ·rw[List.getElem?_set_ne hj]at hu
  rw[World.cell?_setCell_other]
  ·exact hc j u hu
  ·intro e
   injection e with _ e
   omega
