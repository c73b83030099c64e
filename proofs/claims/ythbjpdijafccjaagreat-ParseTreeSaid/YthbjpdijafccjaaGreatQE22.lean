/-
  Parts of the proof, joined: Yd. Conditions: as each theorem says.
-/
import Derived.Test.YthbjpdijafccjaaGreatQE19
import Derived.Test.YthbjpdijafccjaaGreatQE21
import Derived.Test.YthbjpdijafccjaaGreatQE15
set_option maxRecDepth 100000
set_option maxHeartbeats 8000000
namespace Go.Proofs.YthbjpdijafccjaaGreat
open Go.RowKit Go.Lib
theorem Qg0 {r:Int}(h:Qs r=true):0<Qw r:=by
 rcases (by simpa[Qs] using h:Qn r=true∨Q79 r moreSp=true) with h|h
 ·exact QeE h
 ·have key:∀ x∈moreSp,0≤x.1∧x.2≤1114111∧(x.2<55296∨57343<x.1):=by decide
  obtain⟨x,hx,hr⟩:=List.any_eq_true.1 (show moreSp.any (fun x=>decide (x.1≤r)&&decide (r≤x.2))=true from h)
  have hk:=key x hx
  simp only[Bool.and_eq_true,decide_eq_true_eq] at hr
  unfold Qw
  repeat' split
  all_goals omega
theorem QdZ (x:List Int):∀ r∈x.take (Qg x 0),Qs r=true:=fun r hr=>by
 cases x with
 |nil=>simp at hr
 |cons a t =>
  have e:Qg (a::t) 0=if Qn a then ((a::t).takeWhile Qs).length else 0:=rfl
  rw[e] at hr
  split at hr
  ·have e2:(a::t).take ((a::t).takeWhile Qs).length=(a::t).takeWhile Qs:=by
    have:=List.takeWhile_append_dropWhile (p:=Qs) (l:=a::t)
    conv=>lhs;arg 2;rw[←this]
    rw[List.take_left]
   rw[e2] at hr
   exact List.all_eq_true.1 (List.all_takeWhile (p:=Qs) (l:=a::t)) r hr
  ·simp at hr
theorem QdU (t:Txt){f u:Int}(h0:0≤f)(h1:f≤u)(h2:u≤t.r.length):∀ r∈Qo t f u,Qs r=true:=by
 obtain⟨s,hs⟩:=exq ((t.r.drop f.toNat).take (u-f).toNat)
 have hloc:=Q78 t h0 h1 h2
 rw[←hs] at hloc
 rw[←hloc]
 have e1:QU s 0 s.length=QD 0 true s:=by
  unfold QU
  rw[Int.toNat_natCast,List.take_length];rfl
 have en:Q6g s=(s.drop (Q1j (QD 0 true s)).name.from_.toNat).take ((Q1j (QD 0 true s)).name.to-(Q1j (QD 0 true s)).name.from_).toNat:=by
  have e2:QR s 0 s.length=Q1j (QD 0 true s):=by rw[QR,e1]
  show (s.drop (QR s 0 s.length).name.from_.toNat).take ((QR s 0 s.length).name.to-(QR s 0 s.length).name.from_).toNat=_
  rw[e2]
 rw[Q7U] at en
 split at en
 ·rename_i ht
  have ht2:=(Q2U (Nat.zero_le _)).1 ht
  have hl:2≤(QD 0 true s).length:=by simpa using ht2.1
  have hk2:((QD 0 true s)[1]?.getD Ql).kind=2:=ht2.2 1 (by decide)
  have hs0:s≠[]:=by
   intro h
   rw[h,QD,dif_pos rfl] at hl
   simp at hl
  have hn0:=Q39 s true hs0
  rw[Q28 hs0] at hl hk2 en
  obtain⟨x,hx⟩:=exq (s.drop (Qp s true).2.toNat)
  rw[←hx] at hl hk2 en
  have hx0:x≠[]:=by
   intro h
   rw[h,QD,dif_pos rfl] at hl
   simp at hl
  have hn1:=Q39 x false hx0
  rw[Q28 hx0] at hk2 en
  have hk2:(Qp x false).1=2:=hk2
  have en:Q6g s=(s.drop (0+(Qp s true).2).toNat).take ((0+(Qp s true).2+(Qp x false).2)-(0+(Qp s true).2)).toNat:=en
  rw[show (0+(Qp s true).2).toNat=(Qp s true).2.toNat by omega,←hx,show ((0+(Qp s true).2+(Qp x false).2)-(0+(Qp s true).2)).toNat=(Qp x false).2.toNat by omega] at en
  have hlead:(Qp x false).2=(Qg x 0:Int):=by
   unfold Qp at hk2 ⊢
   rw[if_neg (by simp),if_neg (by simp)] at hk2 ⊢
   split at hk2
   ·simp at hk2
   ·rename_i h3
    rw[if_neg h3]
    split at hk2
    ·rename_i h;rw[if_pos h]
    ·split at hk2
     ·simp at hk2
     ·split at hk2
      ·simp at hk2
      ·split at hk2<;>simp at hk2
  rw[en,hlead,Int.toNat_natCast]
  exact QdZ x
 ·rw[en]
  intro r hr
  simp[Ql] at hr
theorem QaJ (t:Txt){f u:Int}(h0:0≤f)(h1:f≤u)(h2:u≤t.r.length):∀ r∈Qo t f u,0<Qw r:=fun r hr=>Qg0 (QdU t h0 h1 h2 r hr)
theorem QcV {l:List Int}(h:∀ x∈l,0<Qw x):(runesBytes l).data.toList=Q2l l:=by
 rw[Q4O,Q2l]
 refine congrArg List.flatten (List.map_congr_left fun x hx=>?_)
 have hx:=h x hx
 rw[QgG x hx,Q4d,if_neg (by omega)]
theorem Qei {l l':List Int}(h:∀ x∈l,0<Qw x)(h':∀ x∈l',0<Qw x)(e:Q2l l=Q2l l'):l=l':=by
 have h1:=Q9Z l 0 h
 have h2:=Q9Z l' 0 h'
 rw[e] at h1
 have:=congrArg (List.map Itm.r) (h1.symm.trans h2)
 rwa [QhD,QhD] at this
theorem Qjz {l l':List Int}(h:∀ x∈l,0<Qw x)(h':∀ x∈l',0<Qw x):std.eqS (runesBytes l) (runesBytes l')=decide (l=l'):=by
 show ((runesBytes l).toList == (runesBytes l').toList)=_
 rw[ByteArray.toList_eq,ByteArray.toList_eq,QcV h,QcV h',Bool.eq_iff_iff,beq_iff_eq,decide_eq_true_iff]
 exact⟨Qei h h',fun e=>by rw[e]⟩
theorem Qk8 {l:List Int}(h:∀ x∈l,0<Qw x):std.eqS (runesBytes l) ⟨#[]⟩=decide (l=[]):=by
 have e:(runesBytes []).data.toList=[]:=by rw[Q4O];rfl
 have:=Qjz h (l':=[]) (fun x hx=>by cases hx)
 rw[←this]
 show ((runesBytes l).toList == _)=((runesBytes l).toList == _)
 rw[ByteArray.toList_eq (bs:=runesBytes []),e,ByteArray.toList_eq (bs:=⟨#[]⟩)]
theorem Qhy (big:Bool)(l:List UInt8):-1≤(Q1c big l).1∧(Q1c big l).1≤1114111:=by
 match l with
 | []=>exact⟨by show (-1:Int)≤-1;decide,by show (-1:Int)≤1114111;decide⟩
 | [_]=>exact⟨by show (-1:Int)≤-1;decide,by show (-1:Int)≤1114111;decide⟩
 | [x,y] =>
  have h1:=Q2O big x y
  simp only[Q1c]
  split<;>simp only<;>omega
 | [x,y,z] =>
  have h1:=Q2O big x y
  simp only[Q1c]
  split<;>simp only<;>omega
 |x::y::x2::y2::r =>
  have h1:=Q2O big x y
  have h2:=Q2O big x2 y2
  simp only[Q1c]
  split
  ·simp only;omega
  ·split<;>simp only<;>omega
theorem Qc7 (big:Bool):∀ (n:Nat) (off:Int) (l:List UInt8),l.length≤n→∀ x∈Q1o big off l,-1≤x.r∧x.r≤1114111
 |0,off,l,h=>fun x hx=>by
  have:l=[]:=List.eq_nil_of_length_eq_zero (by omega)
  subst this
  rw[Q1o,dif_pos rfl] at hx
  cases hx
 |n+1,off,l,h=>fun x hx=>by
  by_cases hl:l=[]
  ·subst hl
   rw[Q1o,dif_pos rfl] at hx
   cases hx
  ·have hs:=Q6E big l hl
   rw[Q1o,dif_neg hl] at hx
   rcases List.mem_cons.1 hx with rfl|hx
   ·exact Qhy big l
   ·exact Qc7 big n _ _ (by rw[List.length_drop];omega) x hx
theorem Qdq:∀ (n off:Nat) (l:List UInt8),∀ x∈(Q1S n off l).map Q9s,-1≤x.r∧x.r≤1114111
 |0,_,_=>fun x hx=>by cases hx
 |_+1,_,[]=>fun x hx=>by cases hx
 |n+1,off,b::t=>fun x hx=>by
  rcases List.mem_cons.1 (show x∈_::(Q1S n _ _).map Q9s from hx) with rfl|hx
  ·exact Q4f (b::t)
  ·exact Qdq n _ _ x hx
theorem QkT (b:List UInt8):Un (Qd b).r:=fun r hr=>by
 obtain⟨x,hx,rfl⟩:=List.mem_map.1 (show r∈(Q2H b).map Itm.r from hr)
 rw[Q2H] at hx
 rcases Q5t b with h|h|h
 ·rw[Q5F,if_pos h] at hx;exact Qdq _ _ _ x hx
 ·rw[Q5F,if_neg (by omega),if_pos h] at hx;exact Qc7 true _ _ _ (Nat.le_refl _) x hx
 ·rw[Q5F,if_neg (by omega),if_neg (by omega),if_pos h] at hx;exact Qc7 false _ _ _ (Nat.le_refl _) x hx
end Go.Proofs.YthbjpdijafccjaaGreat
