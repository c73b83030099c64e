/-
  Parts of the proof, joined: Sb LexG. Conditions: as each theorem says.
-/
import Derived.Test.YtibemhahkicbpaaGreatQI01
import Derived.Lib.Builder
import Derived.Lib.UnsafeStr
import Derived.Lib.Bytealg
set_option maxRecDepth 100000
set_option maxHeartbeats 8000000
namespace Go.Proofs.YtibemhahkicbpaaGreat
open Go.RowKit Go.Lib Tryz
theorem Qe3:(prog.info? 162).map (·.size)=some 2:=by kernel_rfl
theorem Qie:liesAt prog prog.depth 162 (2 / prog.cellsOf 162) 0 162 1=true:=by kernel_rfl
theorem QaV:prog.cellsOf 5=1:=by kernel_rfl
theorem Qjt (b:Nat)(w:World)(h0:w.cell? ⟨b,0,none⟩=some (.pointer (some ⟨b,0,none⟩))) :
  Calls prog 128 #[.pointer (some ⟨b,0,none⟩)] w fun e w'=>e=.returned (.tuple #[])∧w'=w:=by
 obtain⟨j,hj,_⟩:=Option.map_eq_some_iff.1 Qe3
 go_enter func128,ntmps128
 go_wp2
 rw[Lib.run_neq_ptr_same w _ underlying160 hj]
 go_wp2
 go_end0
 exact⟨rfl,rfl⟩
theorem QgB (b:Nat)(w:World)(h0:w.cell? ⟨b,0,none⟩=some (.pointer none))(hsh:w.shape? b=some (162,2))(hfz:w.frozen? ⟨b,0,none⟩=false) :
  Calls prog 128 #[.pointer (some ⟨b,0,none⟩)] w fun e w'=>e=.returned (.tuple #[])∧w'=w.setCell ⟨b,0,none⟩ (.pointer (some ⟨b,0,none⟩)):=by
 obtain⟨j,hj,hjs⟩:=Option.map_eq_some_iff.1 Qe3
 go_enter func128,ntmps128
 go_wp2
 rw[Lib.run_to_unsafe w ⟨b,0,none⟩ underlying160 underlying252 hj (by rw[hjs];decide) hsh (Nat.zero_lt_succ 1)]
 simp only[Result.andThen]
 rw[Oper.upon_value]
 go_wp2
 rw[run_callFunc_extern func160 (by kernel_rfl) (by kernel_rfl) (by kernel_rfl) (e:=Extern.AbiNoEscape.same) (by kernel_rfl)]
 rw[Lib.run_noEscape]
 simp only[Result.andThen]
 rw[Oper.upon_value]
 go_wp2
 rw[Lib.run_from_unsafe w ⟨b,0,none⟩ underlying252 underlying160 hj hsh Qie]
 simp only[Result.andThen]
 rw[Oper.upon_value]
 go_wp2
 go_end0
 exact⟨rfl,rfl⟩
def Sb (B b:Nat)(xs:List UInt8)(w:World):Prop:=Lib.IsBuilder 162 5 B b (bc xs) w
theorem Qka (B b:Nat)(xs:List UInt8)(w:World)(h:Sb B b xs w) :
  Calls prog 128 #[.pointer (some ⟨b,0,none⟩)] w fun e w'=>e=.returned (.tuple #[])∧Lib.BuilderAt 162 5 B b (.pointer (some ⟨b,0,none⟩)) (bc xs) w'∧Below B w w'∧∀ k,k≠b→w'.heap[k]?=w.heap[k]?:=by
 rcases h with h|h
 ·refine (QgB b w h.cell0 h.shape h.frozen0).mono ?_
  rintro e w' ⟨rfl,rfl⟩
  exact⟨rfl,h.used _,(Below.refl B w).setCell (p:=⟨b,0,none⟩) h.1 _,fun k hk=>Below.heap_setCell _ _ _ _ hk⟩
 ·refine (Qjt b w h.cell0).mono ?_
  rintro e w' ⟨rfl,rfl⟩
  exact⟨rfl,h,Below.refl B _,fun _ _=>rfl⟩
theorem QbK (S:Nat→Prop)(A:Option Addr)(n c B b:Nat)(xs ys:List UInt8)(w:World)(h:Sb B b xs w)(hr:Rd w S 1 A n c (bc ys))(hS:¬ S b)(hlen:xs.length+ys.length≤1000000000)(hBw:B≤w.heap.size) :
  Calls prog 104 #[.pointer (some ⟨b,0,none⟩),.slice A n c] w fun e w'=>e=.returned (.tuple #[.int .i64 n,.nilIface])∧Sb B b (xs++ys) w'∧Below B w w':=by
 have hn:n=ys.length:=by have:=hr.len;simpa using this.symm
 subst hn
 have HR:=Lib.hid hr
 have hcm:c≤9223372036854775807:=hr.max
 have hle:=hr.le
 clear hr
 go_enter func104,ntmps104
 go_wp2_with (go_at_call 128;refine (Qka B b xs w h).mono ?_)
 rintro e w1 ⟨rfl,h1,hb1,hk1⟩
 obtain⟨hB,v,hbk,hown,hne⟩:=h1
 have c0:w1.cell? ⟨b,0,none⟩=some (.pointer (some ⟨b,0,none⟩)):=by rw[Lib.cell_of_heap hbk];rfl
 have c1:w1.cell? ⟨b,1,none⟩=some v:=by rw[Lib.cell_of_heap hbk];rfl
 have HR1:=Lib.hid (HR.out.keep fun k hk _=>hk1 k (fun e=>hS (e ▸ hk)))
 have hs1:B≤w1.heap.size:=by have:=hb1.size;omega
 have hxl:(bc xs).length=xs.length:=by simp
 rw[hxl] at hown
 obtain⟨A0,c2,rfl,hro⟩:=Q1t hown
 have hc2m:c2≤9223372036854775807:=hro.max
 have HO:=Lib.hid hown
 clear hown hro hk1 HR h
 go_wp2_with (at_builtin;refine QaE _ rfl (.tmp 12) (.tmp 13) rfl B _ _ _ rfl HO.out S _ _ _ ys rfl HR1.out (by omega) hs1 ?_)
 intro A4 c4 w4 hown4 hg4 hc4
 have hlt:b<w1.heap.size:=by
  rcases Nat.lt_or_ge b w1.heap.size with h'|h'
  ·exact h'
  ·simp[Array.getElem?_eq_none h'] at hbk
 have hb2:w4.heap[b]?=some (.cells #[.pointer (some ⟨b,0,none⟩),.slice A0 xs.length c2] 162 (0,0)):=by
  rw[hg4.block b hlt (fun e=>hne e.symm)]
  exact hbk
 have d0:w4.cell? ⟨b,0,none⟩=some (.pointer (some ⟨b,0,none⟩)):=by rw[Lib.cell_of_heap hb2];rfl
 have d1:w4.cell? ⟨b,1,none⟩=some (.slice A0 xs.length c2):=by rw[Lib.cell_of_heap hb2];rfl
 have f1:w4.frozen? ⟨b,1,none⟩=false:=Lib.frozen_of_heap hb2 1
 have HB4:=Lib.hid (Q70 hb1 hs1 HO.out hg4)
 have HO4:=Lib.hid hown4
 clear hown4 hg4
 go_wp2
 go_ret2
 refine⟨rfl,.inr ?_,HB4.out.setCell (p:=⟨b,1,none⟩) hB _⟩
 exact Lib.BuilderAt.put hB hb2 (by simpa[bc] using HO4.out) (by decide)
theorem Qap (B b:Nat)(l:List UInt8)(w:World)(h:Sb B b l w)(h0:l≠[]) :
  Calls prog 79 #[.pointer (some ⟨b,0,none⟩)] w fun e w'=>e=.returned (.string ⟨l.toArray⟩)∧Below B w w':=by
 obtain⟨p,hB,v,hbk,hown,hne⟩:∃ p,Lib.BuilderAt 162 5 B b p (bc l) w:=by
  rcases h with h|h
  ·exact⟨_,h⟩
  ·exact⟨_,h⟩
 have hl0:l.length≠0:=by simpa using h0
 have hxl:(bc l).length=l.length:=by simp
 rw[hxl] at hown
 obtain⟨g,cap,cur,rfl,hbg,hg,hnc,hcm,hcs,htake⟩:∃ g cap cur,v=.slice (some ⟨g,0,none⟩) l.length cap∧B≤g∧w.heap[g]?=some (.cells cur 5 (0,0))∧l.length≤cap∧cap≤maxLen∧cur.size=cap * 1∧cur.toList.take (l.length * 1)=bc l:=by
  rcases hown.2 with ⟨_,hz⟩|⟨g,cap,cur,hv,r⟩
  ·exact absurd hz hl0
  ·exact⟨g,cap,cur,hv,r⟩
 have c1:w.drew.cell? ⟨b,1,none⟩=some (.slice (some ⟨g,0,none⟩) l.length cap):=by
  have:w.drew.heap[b]?=some (.cells #[p,.slice (some ⟨g,0,none⟩) l.length cap] 162 (0,0)):=hbk
  rw[Lib.cell_of_heap this];rfl
 have hSD:(Builtin.unsafeSliceData_ #[22] 225 #[.slice (some ⟨g,0,none⟩) l.length cap]).run prog w.drew=.ok (.pointer (some ⟨g,0,none⟩)) w.drew :=
  Lib.run_unsafeSliceData_row _ _ _ _ _ _ (by omega)
 have hUS:(Builtin.unsafeString_ #[225,3] 9 #[.pointer (some ⟨g,0,none⟩),.int .i64 l.length]).run prog w.drew=.ok (.string ⟨l.toArray⟩) (w.drew.freeze ⟨g,0,none⟩ l.length):=by
  refine Lib.run_unsafeString_row w.drew 225 3 9 5 underlying225 QaV g cur.size (by have hg':w.drew.heap[g]?=some (.cells cur 5 (0,0)):=hg;simp[World.shape?,hg']) l h0 (by omega) (by unfold maxLen at hcm;omega) ?_
  intro j x hx
  have:=hown.cells (g:=g) rfl j (.int .u8 x.toNat) (by simp[bc,hx])
  exact this
 go_enter func79,ntmps79
 go_wp2
 go_region
 all_goals (go_wp2;go_ret;exact⟨rfl,Lib.below_freeze (Below.drew (Below.refl B w)) (p:=⟨g,0,none⟩) hbg _⟩)
def Q63 (l:List UInt8):Bool:=Q9W l&&!l.contains 58
theorem Q5O (c:UInt8):∀ l:List UInt8,(0≤Lib.indexByte l c)↔l.contains c=true
 | []=>by simp[Lib.indexByte]
 |b::l=>by
  have ih:=Q5O c l
  have hg:=Lib.indexByte_ge l c
  unfold Lib.indexByte
  by_cases hb:b=c
  ·subst hb;simp
  ·rw[if_neg (by simpa using hb)]
   simp only[List.contains_cons]
   rw[show (c == b)=false by simpa using fun h=>hb h.symm,Bool.false_or,←ih]
   split
   ·rename_i h;have:=beq_iff_eq.1 h;omega
   ·rename_i h;have h:¬ Lib.indexByte l c=-1:=by simpa using h
    omega
theorem Q8f (s:ByteArray)(c:Int)(w:World) :
  Calls prog 236 #[.string s,.int .u8 c] w fun e w'=>e=.returned (.int .i64 (Lib.indexByte s.data.toList c.toNat.toUInt8))∧w=w':=by
 go_enter func236,ntmps236
 go_wp2
 rw[run_callFunc_extern func240 (by kernel_rfl) (by kernel_rfl) (by kernel_rfl) (e:=Extern.BytealgIndexByte.indexByte) (by kernel_rfl),Lib.run_indexByteString]
 simp only[Result.andThen]
 rw[Oper.upon_value]
 go_wp2
 go_ret
 exact⟨rfl,rfl⟩
theorem Q9q (s:ByteArray)(c:UInt8)(w:World) :
  Calls prog 235 #[.string s,.string ⟨#[c]⟩] w fun e w'=>∃ k:Int,e=.returned (.int .i64 k)∧(0≤k↔s.data.toList.contains c=true)∧w=w':=by
 have HI:=fun W=>Lib.hid (Q8f s c.toNat W)
 have hc:((c.toNat:Int)).toNat.toUInt8=c:=by simp
 rw[hc] at HI
 have HX:=Lib.hid (Q5O c s.data.toList)
 have HS:=Lib.hid (show ([c] == s.toList)=true→(0≤(0:Int)↔s.data.toList.contains c=true) from fun h=>by
  have e:s.data.toList=[c]:=by rw[←ByteArray.toList_eq];exact (beq_iff_eq.1 h).symm
  rw[e];simp)
 generalize Lib.indexByte s.data.toList c=q at HI HX
 go_enter func235,ntmps235
 go_wp2_with (go_at_call 236;refine (HI _).out.mono ?_;rintro e w' ⟨rfl,rfl⟩)
 ·have h:([c] == s.toList)=true:=by assumption
  go_ret
  exact⟨0,rfl,HS.out h,rfl⟩
 ·go_ret
  exact⟨q,rfl,HX.out,rfl⟩
theorem QaL (s:ByteArray)(c:UInt8)(w:World) :
  Calls prog 233 #[.string s,.string ⟨#[c]⟩] w fun e w'=>∃ k:Int,e=.returned (.int .i64 k)∧(0≤k↔s.data.toList.contains c=true)∧w=w':=by
 have HI:=fun W=>Lib.hid (Q9q s c W)
 go_enter func233,ntmps233
 go_wp2_with fail
 refine (HI _).out.mono ?_
 rintro e w' ⟨k,rfl,hk,rfl⟩
 have HK:=Lib.hid hk
 clear hk
 go_wp2
 go_ret
 exact⟨k,rfl,HK.out,rfl⟩
theorem Q7y (s:ByteArray)(c:UInt8)(w:World) :
  Calls prog 221 #[.string s,.string ⟨#[c]⟩] w fun e w'=>e=.returned (.bool (s.data.toList.contains c))∧w=w':=by
 have HI:=fun W=>Lib.hid (QaL s c W)
 go_enter func221,ntmps221
 go_wp2_with fail
 refine (HI _).out.mono ?_
 rintro e w' ⟨k,rfl,hk,rfl⟩
 have HK:=Lib.hid hk
 clear hk
 go_wp2
 go_ret
 refine⟨QW ?_,rfl⟩
 rw[Bool.eq_iff_iff,←HK.out,decide_eq_true_iff]
theorem QfA (s:ByteArray)(w:World)(hlen:s.size≤300000000) :
  Calls prog 192 #[.string s] w fun e w'=>e=.returned (.bool (Q63 s.data.toList))∧Below w.heap.size w w':=by
 have HN:=Lib.hid (QfH s w hlen)
 have HC:=fun W=>Lib.hid (Q7y s 58 W)
 have HQ:Hid (Q63 s.data.toList=(Q9W s.data.toList&&!s.data.toList.contains 58)):=rfl
 generalize Q63 s.data.toList=q at HQ ⊢
 generalize Q9W s.data.toList=a at HN HQ
 generalize s.data.toList.contains 58=b at HC HQ
 cases a with
 |true =>
  go_enter func192,ntmps192
  go_wp2_with fail
  refine HN.out.mono ?_
  rintro e w1 ⟨rfl,hb1⟩
  have HB:=Lib.hid hb1
  clear hb1
  go_wp2_with fail
  refine (HC _).out.mono ?_
  rintro e w2 ⟨rfl,rfl⟩
  go_wp2
  go_ret
  exact⟨QW (by rw[HQ.out];rfl),HB.out⟩
 |false =>
  go_enter func192,ntmps192
  go_wp2_with fail
  refine HN.out.mono ?_
  rintro e w1 ⟨rfl,hb1⟩
  have HB:=Lib.hid hb1
  clear hb1
  go_wp2
  go_ret
  exact⟨QW (by rw[HQ.out];rfl),HB.out⟩
end Go.Proofs.YtibemhahkicbpaaGreat
