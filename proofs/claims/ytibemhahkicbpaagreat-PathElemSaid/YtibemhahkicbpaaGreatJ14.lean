/- Lemmas, conditions told -/
import Derived.Test.YtibemhahkicbpaaGreatJ11
set_option maxRecDepth 99999
set_option maxHeartbeats 0
set_option linter.unusedSimpArgs false
set_option linter.unusedVariables false
namespace Go.Proofs.YtibemhahkicbpaaGreat
open Go.RowKit Go.Lib
section
open Tryz
theorem QgS(big:Bool)(x y:UInt8):BCall prog 107 [.slc 1 (Q2 [x,y]),.val (.bool big)] [] (.val (.int .i64 (Q1e big x y))) []:=by
 have e:Q2 [x,y]=[.val (.int .u8 (x.toNat:Int)),.val (.int .u8 (y.toNat:Int))]:=rfl;rw[e];have hx:=x.toNat_lt;have hy:=y.toNat_lt;obtain⟨m,hm⟩:=exq ((x.toNat:Int):Int);obtain⟨n,hn⟩:=exq ((y.toNat:Int):Int);have m0:0<=m/\m<256:=by omega
 have n0:0<=n/\n<256:=by omega
 obtain⟨U,hU⟩:=exq (Q1e big x y);have v9:U=if big=true then m * 256+n else n * 256+m:=by rw[hU,hm,hn];rfl
 rw[<-hU,<-hm,<-hn];clear hU hx hy hm hn e;have bm:(-9223372036854775808:Int)<=m/\m<=(9223372036854775807:Int):=by omega
 have bn:(-9223372036854775808:Int)<=n/\n<=(9223372036854775807:Int):=by omega
 have wm:IntKind.wrap .i64 m=m:=Q4d .i64 m bm;have wn:IntKind.wrap .i64 n=n:=Q4d .i64 n bn;cases big
 ·have hU3:U=256 * n+m:=by rw[v9,if_neg (by decide)];omega
  clear v9;refine fnN (cs0) func107 rfl fun _ _=>?_
  with_reducible refine cv0 ?_
  with_reducible repeat' first|refine aU (zA wm wn) ?_|refine zA ?_ ?_|intro hb
  all_goals exact .pure rfl (.inl (by rw[hU3];simp[std,AV.cells,intOf,wm,wn]))
 ·have hU3:U=256 * m+n:=by rw[v9,if_pos rfl];omega
  clear v9;refine fnN (cs0) func107 rfl fun _ _=>?_
  with_reducible refine cv0 ?_
  with_reducible repeat' first|refine aU (zA wm wn) ?_|refine zA ?_ ?_|intro hb
  all_goals exact .pure rfl (.inl (by rw[hU3];simp[std,AV.cells,intOf,wm,wn]))
def isU(u lo hi:Int):Bool:=decide (lo<=u)&&decide (u<=hi)
theorem QpD(u lo hi:Int):BCall prog 108 [.val (.int .i64 u),.val (.int .i64 lo),.val (.int .i64 hi)] [] (.val (.bool (isU u lo hi))) []:=by
 obtain⟨r,hr⟩:=exq (isU u lo hi);rw[<-hr];rw[isU]at hr;by_cases h1:lo<=u
 ·refine fnN (cs0) func108 rfl fun _ _=>?_
  with_reducible refine cv0 ?_
  with_reducible repeat' first|refine aU h1 ?_|refine zA ?_ ?_|intro hb
  all_goals exact .pure rfl (.inl (by rw[hr];simp[std,h1]))
 ·refine fnN (cs0) func108 rfl fun _ _=>?_
  with_reducible refine cv0 ?_
  with_reducible repeat' first|refine aU h1 ?_|refine zA ?_ ?_|intro hb
  all_goals exact .pure rfl (.inl (by rw[hr];simp[std,h1]))
theorem QmD{b:List UInt8}{a:Int}{x y:UInt8}{r:List UInt8}(h0:0<=a)(h:b.drop a.toNat=x::y::r):std.cut (Q2 b) a (a+2)=Q2 [x,y]:=by
 show((Q2 b).drop a.toNat).take (a+2-a).toNat=_
 rw[show(a+2-a).toNat=2 by omega,Q2,<-List.map_drop,h];rfl
theorem Ql5{b:List UInt8}{a:Int}{x y x2 y2:UInt8}{r:List UInt8}(h0:0<=a)(h:b.drop a.toNat=x::y::x2::y2::r):std.cut (Q2 b) (a+2) (a+4)=Q2 [x2,y2]:=by
 show((Q2 b).drop (a+2).toNat).take (a+4-(a+2)).toNat=_
 rw[show(a+4-(a+2)).toNat=2 by omega,show(a+2).toNat=a.toNat+2 by omega,Q2,<-List.map_drop,<-List.drop_drop,h];rfl
def Qbh(u v:Int)(I:Int->Int->Int->Bool):Nat->List AV->List Ob->Option (AV×List Ob):=fun f args _=>match f,args with
 |1000030,_=>some (.val (.int .i64 u),[])
 |1000054,_=>some (.val (.int .i64 v),[])
 |108,[.val (.int .i64 u),.val (.int .i64 lo),.val (.int .i64 hi)]=>some (.val (.bool (I u lo hi)),[])
 |_,_=>none
def uAt(big:Bool)(b:List UInt8)(k:Nat):Int:=Q1e big (b[k]?.getD 0) (b[k+1]?.getD 0)
theorem QcP{big:Bool}{b:List UInt8}{k:Nat}{x y:UInt8}{r:List UInt8}(h:b.drop k=x::y::r):uAt big b k=Q1e big x y:=by
 have g:∀j:Nat,b[k+j]?=(b.drop k)[j]?:=fun j=>by rw[List.getElem?_drop]
 have g0:=g 0;have g1:=g 1;rw[h]at g0 g1;rw[Nat.add_zero]at g0;rw[uAt,g0,g1];rfl
