/- Lemmas, conditions told -/
import Derived.Test.YtnlbhaeimmenoaaGreatG10
import Derived.Shelf.SlLaysM
import Derived.Shelf.SortM.Plain
import Derived.Shelf.SortM.SortNone
import Derived.Sort.OwnSorted
set_option maxRecDepth 99999
set_option maxHeartbeats 0
set_option linter.unusedSimpArgs false
set_option linter.unusedVariables false
namespace Go.Proofs.YtnlbhaeimmenoaaGreat
open List(getElem?_map getElem?_eq_getElem getElem?_set_self getElem?_set_ne mem_map)
open Lib(hid)
open Nat(le_refl zero_add)
open Go.RowKit Go.Lib
section
open Tryz
def Q2P(q r:Int):Int×Int:=if q=0/\(r=34\/r=39)then(r,0)else if q≠0/\r=q then(0,0)else(q,q)
def qSt(l:List Int)(f:Nat):Nat->Int
 |0=>0
 |m+1=>(Q2P (qSt l f m) (l[f+m]?.getD 0)).1
def QbB(l:List Int)(f m:Nat):Int:=(Q2P (qSt l f m) (l[f+m]?.getD 0)).2
def qTo(l:List Int)(f k:Nat):List Int:=(List.range l.length).map fun i=>if f<=i/\i<k then QbB l f (i-f)else 0
def qL(l:List Int)(f:Nat):List Int:=qTo l f l.length
theorem QhW(l:List Int)(f k:Nat):(qTo l f k).length=l.length:=by simp[qTo]
theorem Qed(l:List Int)(f k:Nat)(hf:f<=k)(h:k<l.length):qTo l f (k+1)=(qTo l f k).set k (QbB l f (k-f)):=by
 apply List.ext_getElem
 ·simp[qTo]
 ·intro i h1 h2
  rw[List.getElem_set];simp only[qTo,List.getElem_map,List.getElem_range];by_cases hi:k=i
  ·subst hi
   rw[if_pos ⟨hf,by omega⟩,if_pos rfl]
  ·rw[if_neg hi]
   by_cases h3:f<=i/\i<k
   ·rw[if_pos ⟨h3.1,by omega⟩,if_pos h3]
   ·rw[if_neg (by omega),if_neg h3]
theorem QhE(l:List Int)(f k:Nat)(h:k<l.length):(qTo l f k)[k]?=some 0:=by
 rw[qTo,getElem?_map,List.getElem?_range h];show some (if f<=k/\k<k then _ else(0:Int))=_;rw[if_neg (by omega)]
theorem Qli(l:List Int)(f k:Nat)(hf:f<=k)(h:k<l.length)(hs:QbB l f (k-f)=0):qTo l f (k+1)=qTo l f k:=by
 rw[Qed l f k hf h,hs];obtain⟨h2,e⟩:=List.getElem?_eq_some_iff.1 (QhE l f k h);have e:(qTo l f k)[k]'h2=0:=e;rw[<-e,List.set_getElem_self]
theorem QkD(l:List Int)(f:Nat):rc (qTo l f f)=(madeCells #[Value.int .i32 0] l.length).toList:=by
 apply List.ext_getElem
 ·simp[rc,qTo,madeCells]
 ·intro i h1 h2
  simp only[rc,qTo,List.getElem_map,List.getElem_range,madeCells,Array.toList_map,Array.toList_range];rw[if_neg (by omega)]
  simp
  rw[Nat.mod_one];rfl
theorem Qm0(l:List Int)(k:Nat)(r:Int):(rc l).set k (.int .i32 r)=rc (l.set k r):=by simp[rc,List.map_set]
theorem QgG(S:Nat->Prop)(A:Option Addr)(n c:Nat)(l:List Int)(f:Nat)(w:World)(hr:Rd w S 1 A n c (rc l))(hf:f<=l.length)(hl:l.length<=1000000000) :
  Calls prog 142 #[.slice A n c,.int .i64 f] w fun e w'=>∃g,e=.returned (.slice (some ⟨g,0,none⟩) l.length l.length)/\Rd w' (fun b=>w.heap.size<=b) 1 (some ⟨g,0,none⟩) l.length l.length (rc (qL l f))/\Below w.heap.size w w':=by
 obtain rfl:=hr.rlen;have hle:=hr.le;have hmx:c<=9223372036854775807:=hr.max;obtain⟨i0,hi,hz0,hz1,hz2⟩:=info_parts QpR;have HR:=hid hr;clear hr;go_enter func142,ntmps142
 go_wp2_with (at_make;refine wpList_make_full _ rfl (.tmp 9) (.tmp 9) 28 rfl w.heap.size 21 i0 (.int .i32 0) 1 underlying28 hi hz0 hz1 .i64 .i64 _ _ l.length rfl rfl rfl rfl (by rw[hz2];omega) (by unfold maxLen;omega) (le_refl _) ?_)
 intro w1 hown hg1;rw[<-QkD l f]at hown;have hb1:Below w.heap.size w w1:=(Below.refl _ w).grown hg1 (le_refl _) (fun k hk=>by cases hk)
 have hfz:∀j,j<l.length->w1.frozen? ⟨w.heap.size,0+j,none⟩=false:=fun j _=>by
  rcases hown.2 with ⟨hv,_⟩|⟨g,cap,cur,hv,_,hg,_⟩
  ·cases hv
  ·injection hv with hv _ _
   injection hv with hv
   injection hv with hv
   subst hv;exact Lib.frozen_of_heap hg _
 obtain⟨g,hg⟩:=exq w.heap.size;have HO:Hid (Rd w1 (fun b=>w.heap.size<=b) 1 (some ⟨g,0,none⟩) l.length l.length (rc (qTo l f f))):=by rw[hg];exact Rd.of_own hown
 rw[<-hg]at hfz ⊢;have hgw:w.heap.size<=g:=by omega
 have HF:=hid hfz;have HB:=hid hb1;clear hfz hb1 hown hg1 hz0 hz1 hz2 hi hg;go_wp2
 go_loopw [6,7] (fun q i wr=>∃(k:Nat),f<=k/\k<=l.length/\q=.int .i32 (qSt l f (k-f))/\i=.int .i64 k/\Hid (Rd wr (fun b=>w.heap.size<=b) 1 (some ⟨g,0,none⟩) l.length l.length (rc (qTo l f k)))/\Hid (∀j,j<l.length->wr.frozen? ⟨g,0+j,none⟩=false)/\Hid (Below w.heap.size w wr))
  (fun _ i _=>l.length-(Go.RowKit.intOf i).toNat)
 case atStart=>exact⟨f,le_refl _,hf,by rw[Nat.sub_self];rfl,rfl,HO.out,HF.out,HB.out⟩
 case round =>
  obtain⟨k,hk0,hk,rfl,rfl,HK,HG,HW⟩:=hrel;by_cases hlt:k<l.length
  ·obtain⟨b,u,rfl,hc1⟩:=(HR.out.below HW.out).rune hlt
   obtain⟨b2,o2,hA,hS,hcell⟩:=HK.out.at_ (by omega)
   injection hA with hA
   injection hA with e1 e2
   subst e1 e2;have hc2:wr.cell? ⟨g,0+k,none⟩=some (.int .i32 0):=hcell k _ (by rw[rc,getElem?_map,QhE l f k hlt];rfl)
   have hfk:=HG.out k hlt;rw[zero_add]at hc2 hfk;have hke:f+(k-f)=k:=by omega
   have HQ:Hid (qSt l f (k+1-f)=(Q2P (qSt l f (k-f)) l[k]).1):=by
    rw[Hid,show k+1-f=(k-f)+1 by omega,qSt,hke,getElem?_eq_getElem hlt];rfl
   have HO2:Hid (QbB l f (k-f)=(Q2P (qSt l f (k-f)) l[k]).2):=by
    rw[Hid,QbB,hke,getElem?_eq_getElem hlt];rfl
   have HST:=hid (Qed l f k hk0 hlt);have HSM:=hid (Qli l f k hk0 hlt);clear hcell hke HO HF HB;generalize qSt l f (k-f)=q at HQ HO2 ⊢;generalize l[k]=r at hc1 HQ HO2;by_cases hq0:q=0
   ·subst hq0
    by_cases h34:r=34
    ·have HQ2:Hid (qSt l f (k+1-f)=r):=by rw[Hid,HQ.out,Q2P,if_pos ⟨rfl,.inl h34⟩]
     have HS2:=hid (HSM.out (by rw[HO2.out,Q2P,if_pos ⟨rfl,.inl h34⟩]))
     clear HQ HO2 HST HSM;subst h34;go_wp2
     go_roundw
     case rel=>exact⟨k+1,by omega,by omega,by rw[HQ2.out],by go_num,by rw[HS2.out];exact HK.out,HG.out,HW.out⟩
     case measure=>simp[Go.RowKit.intOf];omega
    ·by_cases h39:r=39
     ·have HQ2:Hid (qSt l f (k+1-f)=r):=by rw[Hid,HQ.out,Q2P,if_pos ⟨rfl,.inr h39⟩]
      have HS2:=hid (HSM.out (by rw[HO2.out,Q2P,if_pos ⟨rfl,.inr h39⟩]))
      clear HQ HO2 HST HSM h34;subst h39;go_wp2
      go_roundw
      case rel=>exact⟨k+1,by omega,by omega,by rw[HQ2.out],by go_num,by rw[HS2.out];exact HK.out,HG.out,HW.out⟩
      case measure=>simp[Go.RowKit.intOf];omega
     ·have hn:¬((0:Int)=0/\(r=34\/r=39)):=fun h=>h.2.elim h34 h39
      have HQ2:Hid (qSt l f (k+1-f)=0):=by rw[Hid,HQ.out,Q2P,if_neg hn,if_neg (fun h=>h.1 rfl)]
      have HS2:Hid (qTo l f (k+1)=(qTo l f k).set k 0):=by rw[Hid,HST.out,HO2.out,Q2P,if_neg hn,if_neg (fun h=>h.1 rfl)]
      have h34b:(r == 34)=false:=by simpa using h34
      have h39b:(r == 39)=false:=by simpa using h39
      clear HQ HO2 HST HSM hn h34 h39;go_wp2
      go_roundw
      case rel =>
       refine⟨k+1,by omega,by omega,by rw[HQ2.out],by go_num,?_,fun j hj=>?_,HW.out.setCell hgw _⟩
       ·rw[HS2.out,<-Qm0]
        have h9:=HK.out.setB hlt (.int .i32 0);rw[zero_add]at h9;exact h9
       ·rw[World.frozen?_setCell];exact HG.out j hj
      case measure=>simp[Go.RowKit.intOf];omega
   ·have hq0b:(q == 0)=false:=by simpa using hq0
    by_cases hrq:r=q
    ·have hn:¬(q=0/\(r=34\/r=39)):=fun h=>hq0 h.1
     have HQ2:Hid (qSt l f (k+1-f)=0):=by rw[Hid,HQ.out,Q2P,if_neg hn,if_pos ⟨hq0,hrq⟩]
     have HS2:=hid (HSM.out (by rw[HO2.out,Q2P,if_neg hn,if_pos ⟨hq0,hrq⟩]))
     clear HQ HO2 HST HSM hn;subst hrq;go_wp2
     go_roundw
     case rel=>exact⟨k+1,by omega,by omega,by rw[HQ2.out],by go_num,by rw[HS2.out];exact HK.out,HG.out,HW.out⟩
     case measure=>simp[Go.RowKit.intOf];omega
    ·have hn:¬(q=0/\(r=34\/r=39)):=fun h=>hq0 h.1
     have HQ2:Hid (qSt l f (k+1-f)=q):=by rw[Hid,HQ.out,Q2P,if_neg hn,if_neg (fun h=>hrq h.2)]
     have HS2:Hid (qTo l f (k+1)=(qTo l f k).set k q):=by rw[Hid,HST.out,HO2.out,Q2P,if_neg hn,if_neg (fun h=>hrq h.2)]
     have hrqb:(r == q)=false:=by simpa using hrq
     clear HQ HO2 HST HSM hn hrq;go_wp2
     go_roundw
     case rel =>
      refine⟨k+1,by omega,by omega,by rw[HQ2.out],by go_num,?_,fun j hj=>?_,HW.out.setCell hgw _⟩
      ·rw[HS2.out,<-Qm0]
       have h9:=HK.out.setB hlt (.int .i32 q);rw[zero_add]at h9;exact h9
      ·rw[World.frozen?_setCell];exact HG.out j hj
     case measure=>simp[Go.RowKit.intOf];omega
  ·have e:k=l.length:=by omega
   subst e;go_wp2
   go_ret
   exact⟨g,rfl,HK.out,HW.out⟩
end
theorem Q8i(s:Nam):(bsB s).toList=s:=ByteArray.toList_mk s
theorem QkX(s t:Nam):std.eqS (bsB s) (bsB t)=decide (s=t):=by
 show((bsB s).toList == (bsB t).toList)=_
 rw[Q8i,Q8i];exact Bool.eq_iff_iff.2 (by simp)
theorem Qk3(s t:Nam):std.ltS (bsB s) (bsB t)=ltN s t:=by
 show Op.bytesLess (bsB s).toList (bsB t).toList=_;rw[Q8i,Q8i];rfl
def kvE(q:Nam×Nat):AV×AV:=(.val (.string (bsB q.1)),.val (.int .i64 (q.2:Int)))
def Q2W(m:List (Nam×Nat)):List (AV×AV):=m.map kvE
theorem QdJ(m:List (Nam×Nat)):(Q2W m).length=m.length:=by simp[Q2W]
def Q7C(s:Nam):List (Nam×Nat)->Option Nat
 | []=>none
 |(t,_)::r=>if t=s then some 0 else(Q7C s r).map (· + 1)
theorem QdI(s:Nam):∀(m:List (Nam×Nat)) (i:Nat),Q7C s m=some i->(Q2W m).set i (kvE (s,Q3j s m+1))=Q2W (Q3Z s m)/\i<m.length
 | [],i,h=>by cases h
 |(t,c)::r,i,h=>by
  rw[Q7C]at h;split at h
  ·rename_i e
   obtain rfl:0=i:=by simpa using h
   subst e;have:Q3j t ((t,c)::r)=c:=by simp[Q3j]
   rw[Q3Z,if_pos rfl,this];exact⟨rfl,Nat.succ_pos _⟩
  ·rename_i e
   obtain⟨j,hj,rfl⟩:=Option.map_eq_some_iff.1 h;obtain⟨h1,h2⟩:=QdI s r j hj;have:Q3j s ((t,c)::r)=Q3j s r:=by simp[Q3j,e]
   rw[Q3Z,if_neg e,this];exact⟨congrArg (kvE (t,c) :: ·) h1,Nat.succ_lt_succ h2⟩
theorem Qc0(s:Nam):∀(m:List (Nam×Nat)),Q7C s m=none->Q2W m++[kvE (s,1)]=Q2W (Q3Z s m)/\Q3j s m=0
 | [],_=>⟨rfl,rfl⟩
 |(t,c)::r,h=>by
  rw[Q7C]at h;split at h
  ·cases h
  ·rename_i e
   obtain⟨h1,h2⟩:=Qc0 s r (Option.map_eq_none_iff.1 h);have:Q3j s ((t,c)::r)=Q3j s r:=by simp[Q3j,e]
   rw[Q3Z,if_neg e,this];exact⟨congrArg (kvE (t,c) :: ·) h1,h2⟩
theorem Qf4(s:Nam):∀m:List (Nam×Nat),Q7C s m=none->s ∉ m.map Prod.fst
 | [],_,h=>by cases h
 |(t,c)::r,h,hm=>by
  rw[Q7C]at h;split at h
  ·cases h
  ·rename_i e
   rcases List.mem_cons.1 hm with h2|h2
   ·exact e h2.symm
   ·exact Qf4 s r (Option.map_eq_none_iff.1 h) h2
section
variable {P:Program}{w0:World}{g0:Gh}{o0:List Ob}{N:Nat}{Q:Ex->St->Prop}
theorem Tree.via{t:Tree}(h:∀T,t=T->T.ok P w0 g0 o0 N Q):t.ok P w0 g0 o0 N Q:=h _ rfl
theorem Q9H(s:Nam):∀(m:List (Nam×Nat)) (j:Nat),Qah (.val (.string (bsB s))) j (Q2W m)=some ((Q7C s m).map fun i=>(j+i,.val (.int .i64 (Q3j s m:Int))))
 | [],j=>rfl
 |(t,c)::r,j=>by
  have e1:Qb1 std [AV.val (.string (bsB s))] [AV.val (.string (bsB t))]=some ([.str],std.andB (decide (s=t)) true):=by
   simp only[Qb1,eqC];rw[QkX]
  show(if Q9r (.val (.string (bsB t)))=Q9r (.val (.string (bsB s)))then(match Qb1 std [AV.val (.string (bsB s))] [AV.val (.string (bsB t))]with
   |some (_,b)=>if b=true then some (some (j,.val (.int .i64 (c:Int))))else Qah (.val (.string (bsB s))) (j+1) (Q2W r)
   |none=>none)else none)=_
  rw[if_pos (show Q9r (.val (.string (bsB t)))=Q9r (.val (.string (bsB s))) from rfl),e1];by_cases e:s=t
  ·subst e
   have h:std.andB (decide (s=s)) true=true:=by rw[decide_eq_true rfl];rfl
   show(if std.andB (decide (s=s)) true=true then _ else _)=_
   rw[if_pos h,Q7C,if_pos rfl,show Q3j s ((s,c)::r)=c by simp[Q3j]];rfl
  ·have h:std.andB (decide (s=t)) true=false:=by rw[decide_eq_false e];rfl
   have e2:¬t=s:=fun h=>e h.symm
   have eg:Q3j s ((t,c)::r)=Q3j s r:=by simp[Q3j,e2]
   show(if std.andB (decide (s=t)) true=true then _ else _)=_
   rw[if_neg (by rw[h];simp),Q7C,if_neg e2,Q9H s r (j+1),eg,Option.map_map]
   congr 1
   congr 1
   funext i
   show(j+1+i,_)=(j+(i+1),_)
   rw[show j+1+i=j+(i+1) by omega]
end
section
variable {w:World}{g:Gh}{ob:List Ob}
theorem QhS{i:Nat}{cs cs':List AV}(hi:ob[i]?=some (.box cs)):Ext w g ob w g (ob.set i (.box cs')):=by
 have hl:=Q8 hi;refine⟨fun b o h=>⟨h,rfl⟩,fun _ _=>rfl,fun j hj=>?_,fun j hj=>?_,fun j et sz fz e xs hj=>?_,fun b j _ _=>⟨rfl,fun _ _ h=>h⟩⟩
 ·by_cases e:j=i
  ·subst e;rw[getElem?_set_self hl];trivial
  ·rw[getElem?_set_ne (Ne.symm e)];exact hj
 ·have:j≠i:=by rintro rfl;rw[hi]at hj;exact hj
  rw[getElem?_set_ne (Ne.symm this)];exact hj
 ·have:j≠i:=by rintro rfl;rw[hi]at hj;cases hj
  exact⟨fz,e,xs,by rw[getElem?_set_ne (Ne.symm this)];exact hj,le_refl _,fun _=>.inl ⟨rfl,fun b h=>⟨h,rfl⟩⟩⟩
theorem Ql5(M:Mem w g ob){i:Nat}{cs cs':List AV}(hi:ob[i]?=some (.box cs))(hc:∀cur T,w.heap[g.loc i]?=some (.cells cur T (0,0))->ARelC w g ob cur.toList cs->ARelC w g ob cur.toList cs'):Mem w g (ob.set i (.box cs')):=by
 have hl:=Q8 hi;have E:Ext w g ob w g (ob.set i (.box cs')):=QhS hi;refine⟨fun j c hj=>?_,fun j c hj k u hk=>?_,fun j y hj=>?_,fun b j hG=>by rw[List.length_set];exact M.own b j hG,fun b o hA=>?_,fun j et sz fz e xs hj=>?_,fun b hs=>?_,M.uniq⟩
 ·by_cases e:j=i
  ·subst e
   rw[getElem?_set_self hl]at hj;obtain rfl:cs'=c:=by simpa using hj
   obtain⟨h1,cur,T,h2,h3⟩:=M.box _ _ hi;exact⟨h1,cur,T,h2,(hc _ _ h2 h3).ext E⟩
  ·rw[getElem?_set_ne (Ne.symm e)]at hj
   obtain⟨h1,cur,T,h2,h3⟩:=M.box _ _ hj;exact⟨h1,cur,T,h2,h3.ext E⟩
 ·have e:j≠i:=by rintro rfl;rw[getElem?_set_self hl]at hj;cases hj
  rw[getElem?_set_ne (Ne.symm e)]at hj;exact M.fbox j c hj k u hk
 ·have e:j≠i:=by rintro rfl;rw[getElem?_set_self hl]at hj;cases hj
  rw[getElem?_set_ne (Ne.symm e)]at hj;exact⟨(M.iter j y hj).1,(M.iter j y hj).2.len (by simp)⟩
 ·obtain⟨h1,h2⟩:=M.imm b o hA
  refine⟨h1,fun j hG hs=>?_⟩
  obtain⟨et,sz,e,xs,h3,h4⟩:=h2 j hG hs;have e':j≠i:=by rintro rfl;rw[hi]at h3;cases h3
  exact⟨et,sz,e,xs,by rw[getElem?_set_ne (Ne.symm e')];exact h3,h4⟩
 ·have e':j≠i:=by rintro rfl;rw[getElem?_set_self hl]at hj;cases hj
  rw[getElem?_set_ne (Ne.symm e')]at hj;exact M.roww j et sz fz e xs hj
 ·obtain⟨j,et,sz,fz,e,xs,h3,h4⟩:=M.nsub b hs
  have e':j≠i:=by rintro rfl;rw[hi]at h4;cases h4
  exact⟨j,et,sz,fz,e,xs,h3,by rw[getElem?_set_ne (Ne.symm e')];exact h4⟩
end
theorem BCall.frozen{P:Program}{f:Nat}{args:List AV}{ob ob':List Ob}{res:AV}{i j id et sz ep:Nat}{fz:Bool}{cs xs:List AV}(hi:ob[i]?=some (.box cs))(hj:cs[j]?=some (.row id ep))(hr:ob[id]?=some (.row et sz fz ep xs))
  (h:BCall P f args ((ob.set id (.row et sz true ep xs)).set i (.box (cs.set j (.slc sz xs)))) res ob'):BCall P f args ob res ob':=by
 refine⟨h.1,fun w g vs M hL=>?_⟩
 have jI:i≠id:=by rintro rfl;rw[hi]at hr;cases hr
 obtain⟨hG,cur,T,hh,hc⟩:=M.box _ _ hi;have vl:j<cur.toList.length:=by rw[hc.1];exact Q8 hj
 have hv:=(hc.2 j cur.toList[j] _ (getElem?_eq_getElem vl) hj).1;obtain⟨_,et',sz',fz',e',xs',h1,h2,h3⟩:=hv;rw[hr]at h1;obtain⟨rfl,rfl,rfl,rfl,rfl⟩:et=et'/\sz=sz'/\fz=fz'/\ep=e'/\xs=xs':=by simpa using h1
 obtain⟨g',M',E',R',L'⟩:=Q5S M hr (h3 rfl) (le_refl _);have qn:(ob.set id (.row et sz true ep xs))[i]?=some (.box cs):=by rw[getElem?_set_ne (Ne.symm jI)];exact hi
 have E2:Ext w g' (ob.set id (.row et sz true ep xs)) w g' ((ob.set id (.row et sz true ep xs)).set i (.box (cs.set j (.slc sz xs)))):=QhS qn
 have M2:Mem w g' ((ob.set id (.row et sz true ep xs)).set i (.box (cs.set j (.slc sz xs)))):=by
  refine Ql5 M' qn fun cur1 T1 hh1 vH=>?_
  have ecur:cur1=cur:=by
   have e1:g'.loc i=g.loc i:=by rw[L'.loc]
   rw[e1,hh]at hh1;have xx:Obj.cells cur T (0,0)=Obj.cells cur1 T1 (0,0):=by simpa using hh1
   cases xx;rfl
  subst ecur;refine⟨by rw[List.length_set];exact vH.1,fun q y u hy hu=>?_⟩
  by_cases e:q=j
  ·subst e
   rw[getElem?_set_self (Q8 hj)]at hu;obtain rfl:AV.slc sz xs=u:=by simpa using hu
   rw[getElem?_eq_getElem vl]at hy;obtain rfl:cur1.toList[q]=y:=by simpa using hy
   exact⟨R'.to0,(hc.2 q _ _ (getElem?_eq_getElem vl) hj).2⟩
  ·rw[getElem?_set_ne (Ne.symm e)]at hu
   exact vH.2 q y u hy hu
 have pw:Ext w g ob w g' ((ob.set id (.row et sz true ep xs)).set i (.box (cs.set j (.slc sz xs)))):=E'.trans E2 (by rw[L'.len];exact le_refl _)
 have hL2:Q2R w g' ((ob.set id (.row et sz true ep xs)).set i (.box (cs.set j (.slc sz xs)))) vs args:=⟨hL.1,fun q y u hy hu=>(hL.2 q y u hy hu).ext pw⟩
 have hg:GhLe g g' ob ((ob.set id (.row et sz true ep xs)).set i (.box (cs.set j (.slc sz xs)))):=⟨L'.A,L'.G,L'.loc,by simp⟩
 refine(h.2 w g' vs M2 hL2).mono fun e w' ⟨v,g'',h1,h2,h3,h4⟩=>?_
 exact⟨v,g'',h1,h2,h3,(Step.ghost pw hg).trans h4⟩
theorem BCall.frame{P:Program}{f:Nat}{args:List AV}{ob ob':List Ob}{res:AV}(ρ:List Nat)(ho:Q2w (ρ.map some)=true)(ht:there ob ρ=true)(hn:ρ.length<=ob'.length)
  (h:BCall P f (args.map (inA ob ρ)) (Q4p ob ρ) res ob'):BCall P f args ob (QlP ob ρ res) (Q5j ob ρ ob'):=by
 refine⟨h.1,fun w g vs M hL=>?_⟩
 refine(h.2 w (g.ren (ρ.map some)) vs (QfL M ho ht) ⟨by simp[hL.1],fun j v x hv hx=>?_⟩).mono fun e w' ⟨v,g',h1,h2,h3,h4⟩=>?_
 ·rw[getElem?_map,Option.map_eq_some_iff]at hx
  obtain⟨x',vz,rfl⟩:=hx;have h1:=hL.2 j v x' hv vz;have h2:=Qdu ho ht h1.to;cases x' with
  |agg cs=>exact h2
  |tup _=>exact(show False from h1).elim
  |box i o=>exact h2.to1' (by simp only[inA,inC];split<;>simp)
  |iter i=>exact h2.to1' (by simp only[inA,inC];split<;>simp)
  |row i e=>exact h2.to1' (by simp only[inA,inC];split<;>(try split)<;>(try split)<;>simp)
  |_=>exact h2
 ·have C:CallAt w g ob ρ w' g' ob':=⟨ho,ht,hn,M,h2,h4⟩
  exact⟨v,g.out g' ρ ob.length,h1,C.mem,C.rel h3,C.step⟩
section
open Tryz
def QjL:Go.Shelf.Ren:=⟨fun|6=>14|8=>35|9=>34|19=>76|20=>77|21=>67|22=>68|23=>69|24=>70|25=>71|26=>72|27=>73|28=>74|29=>75|36=>105|31=>106|32=>107|37=>108|38=>109|39=>110|41=>140|n=>n,fun|27=>24|29=>9|3=>3|32=>93|26=>24|0=>0|44=>165|46=>167|4=>4|36=>158|35=>157|41=>82|5=>5|9=>9|53=>192|57=>196|63=>222|64=>94|n=>n,fun|n=>n⟩
theorem QoU:Go.Proofs.SlLaysM.n6 prog QjL:={
 mixed:=by kernel_rfl
 f6:=⟨f14.name,by decide,func14.trans (congrArg some (by kernel_rfl))⟩
 f8:=func35.trans (congrArg some (by kernel_rfl))
 f9:=⟨f34.name,by decide,func34.trans (congrArg some (by kernel_rfl))⟩
 f19:=func76.trans (congrArg some (by kernel_rfl))
 f20:=func77.trans (congrArg some (by kernel_rfl))
 f21:=⟨f67.name,by decide,func67.trans (congrArg some (by kernel_rfl))⟩
 f22:=⟨f68.name,by decide,func68.trans (congrArg some (by kernel_rfl))⟩
 f23:=⟨f69.name,by decide,func69.trans (congrArg some (by kernel_rfl))⟩
 f24:=⟨f70.name,by decide,func70.trans (congrArg some (by kernel_rfl))⟩
 f25:=⟨f71.name,by decide,func71.trans (congrArg some (by kernel_rfl))⟩
 f26:=⟨f72.name,by decide,func72.trans (congrArg some (by kernel_rfl))⟩
 f27:=⟨f73.name,by decide,func73.trans (congrArg some (by kernel_rfl))⟩
 f28:=⟨f74.name,by decide,func74.trans (congrArg some (by kernel_rfl))⟩
 f29:=⟨f75.name,by decide,func75.trans (congrArg some (by kernel_rfl))⟩
 f31:=func106.trans (congrArg some (by kernel_rfl))
 f32:=func107.trans (congrArg some (by kernel_rfl))
 f36:=⟨f105.name,by decide,func105.trans (congrArg some (by kernel_rfl))⟩
 f37:=⟨f108.name,by decide,func108.trans (congrArg some (by kernel_rfl))⟩
 f38:=⟨f109.name,by decide,func109.trans (congrArg some (by kernel_rfl))⟩
 f39:=⟨f110.name,by decide,func110.trans (congrArg some (by kernel_rfl))⟩
 f41:=⟨f140.name,by decide,func140.trans (congrArg some (by kernel_rfl))⟩
 t0:=underlying0
 a0:=isAgg0
 z0:=sizeOf0
 v0:=zeroValue0
 t3:=underlying3
 a3:=isAgg3
 z3:=sizeOf3
 v3:=zeroValue3
 t4:=underlying4
 a4:=isAgg4
 z4:=sizeOf4
 v4:=zeroValue4
 t5:=underlying5
 a5:=isAgg5
 z5:=sizeOf5
 v5:=zeroValue5
 t9:=underlying9
 a9:=isAgg9
 z9:=sizeOf9
 v9:=zeroValue9
 t26:=underlying24
 a26:=isAgg24
 z26:=sizeOf24
 v26:=zeroValue24
 t27:=underlying24
 a27:=isAgg24
 z27:=sizeOf24
 v27:=zeroValue24
 t29:=underlying9
 a29:=isAgg9
 z29:=sizeOf9
 v29:=zeroValue9
 t32:=underlying93
 a32:=isAgg93
 z32:=sizeOf93
 v32:=zeroValue93
 t35:=underlying157
 a35:=isAgg157
 z35:=sizeOf157
 v35:=zeroValue157
 t36:=underlying158
 a36:=isAgg158
 z36:=sizeOf158
 v36:=zeroValue158
 t41:=underlying82
 a41:=isAgg82
 z41:=sizeOf82
 v41:=zeroValue82
 t44:=underlying165
 a44:=isAgg165
 z44:=sizeOf165
 v44:=zeroValue165
 t46:=underlying167
 a46:=isAgg167
 z46:=sizeOf167
 v46:=zeroValue167
 t53:=underlying192
 a53:=isAgg192
 z53:=sizeOf192
 v53:=zeroValue192
 t57:=underlying196
 a57:=isAgg196
 z57:=sizeOf196
 v57:=zeroValue196
 t63:=underlying222
 a63:=isAgg222
 z63:=sizeOf222
 v63:=zeroValue222
 t64:=underlying94
 a64:=isAgg94
 z64:=sizeOf94
 v64:=zeroValue94 }
def Ql(l:List Nam):List AV:=l.map fun s=>.val (.string (bsB s))
theorem Q3k(l:List Nam):(Ql l).length=l.length:=by simp[Ql]
theorem QaC(a b:List Nam):Ql (a++b)=Ql a++Ql b:=by simp[Ql]
theorem QoQ(l:List Nam):Ql l=(l.map encStr).map .val:=by simp[Ql,bsB]
theorem QnT{w:World}{A:Nat->Nat->Prop}{l:List Value}(h:∀u∈l,u.oneCell'=true):Alike w A l (l.map .val):=by
 refine⟨by simp,fun j y u hy hu=>?_⟩
 rw[getElem?_map,hy]at hu;obtain rfl:AV.val y=u:=by simpa using hu
 exact PRel.val _ (h y (List.mem_of_getElem? hy))
theorem Qgm{w:World}{A:Nat->Nat->Prop}(l:List Nam):Alike w A (l.map encStr) (QF (Ql l)):=by
 rw[QoQ,Q6w];refine QnT fun u hu=>?_
 obtain⟨x,_,rfl⟩:=mem_map.1 hu;rfl
theorem QpQ(l:List Nam)(hl:l.length<=1000000):BCall prog 14 [.row 0 0] [.row 9 1 false 0 (Ql l)] (.tup []) [.row 9 1 false 0 (Ql (l.mergeSort leN))]:=by
 refine⟨enters_of func14 (by kernel_rfl) rfl,fun w g vs M hL=>?_⟩
 obtain⟨v1,vs1,rfl,h1,hL⟩:=QX hL;obtain rfl:=Q2T hL;obtain⟨h0,et,sz,fz,e,xs,h3,h4,h5⟩:=(show ARel0 w g _ v1 (.row 0 0) from h1);cases h3;obtain⟨ys,ho,hG,j7,hw,hs⟩:=h5 rfl;rw[QoQ,Q6w]at j7;obtain rfl:=Q8U j7;rw[Q3k]at ho;have zT:(l.mergeSort leN).length=l.length:=List.length_mergeSort l;rcases ho.2 with ⟨h6,h7⟩|⟨b,cap,cur,rfl,_,h7,h8,h9,q9,vn⟩
 ·have gi:l=[]:=List.length_eq_zero_iff.1 h7
  subst gi;subst h6;have hc:=AnyM.slices_Sort_string_none QoU none 0 w;refine hc.mono fun e w' ⟨zX,zi⟩=>?_
  subst zi;rw[show([]:List Nam).mergeSort leN=[] by simp]
  exact⟨_,g,zX,M,⟨#[],rfl,rfl,fun j y u hy hu=>by simp at hy⟩,Step.refl⟩
 have qJ:g.G b=some 0:=hG b rfl;have qu:g.sub b=false:=hs.1 b rfl
 have zJ:∀o,¬g.A b o:=fun o h=>by
  obtain⟨et,sz,e,xs,h1,_⟩:=(M.imm b o h).2 0 qJ qu;cases h1
 have xo:b<w.heap.size:=(M.own b 0 qJ).1;have hc:=AnyM.slices_Sort_string QoU b 0 cap l w (holds_of_block h7 (by simpa using vn)) xo (by omega)
 change Calls prog 14 _ _ _ at hc;refine hc.mono fun e w' ⟨zX,n,os,zi⟩=>?_
 have hg:w.grownBy w' (some b):=by rw[zi];exact grownBy_sorted _
 have gj:w'.heap[b]?=some (.cells (Sort.putCells encStr 0 (l.mergeSort leN).toArray cur) 9 (0,0)):=by rw[zi];exact heap_sorted _ h7
 have px:∀k,k<w.heap.size->k≠b->w'.heap[k]?=w.heap[k]?:=fun k hk jI=>hg.block k hk (by simpa using jI)
 have hcw:∀b' o,g.A b' o->w'.cell? ⟨b',o,none⟩=w.cell? ⟨b',o,none⟩:=fun b' o h=>by
  refine World.cell?_of_block (w:=w) (px b' (M.imm b' o h).1 fun he=>?_)
  subst he;exact zJ o h
 have hwN:∀x∈Ql (l.mergeSort leN),x.cells.length=1:=fun x hx=>by
  obtain⟨y,_,rfl⟩:=mem_map.1 hx;rfl
 have hcs:(Sort.putCells encStr 0 (l.mergeSort leN).toArray cur).size=cur.size:=by simp[Sort.putCells]
 have hE:Ext w g [.row 9 1 false 0 (Ql l)] w' g [.row 9 1 false 0 (Ql (l.mergeSort leN))]:=by
  refine⟨fun b' o h=>⟨h,hcw b' o h⟩,fun _ _=>rfl,fun id h=>?_,fun id h=>?_,fun id et sz fz e xs h=>?_,fun b' id h _=>⟨rfl,fun _ o h=>h⟩⟩
  ·cases id<;>simp[Q6p]at h
  ·cases id<;>simp[Q8w]at h
  ·cases id with
   |zero =>
    cases h;refine⟨false,0,_,rfl,le_refl _,fun _=>.inr ⟨by decide,by rw[Q3k,Q3k,zT],hwN,fun b' yX=>⟨yX,fun hsb'=>?_⟩⟩⟩
    obtain rfl:b'=b:=M.uniq b' b 0 yX qJ hsb' qu;refine⟨cur,_,h7,gj,hcs,?_⟩;rw[Q3k,Nat.mul_one,take_putCells cur (l.mergeSort leN) (by rw[zT];omega)]
    exact Qgm _
   |succ id=>simp at h
 refine⟨_,g,zX,⟨fun id cs h=>?_,fun id cs h=>?_,fun id y h=>?_,fun b' id h=>?_,fun b' o h=>?_,fun id et sz fz e xs h=>?_,fun b' h=>?_,M.uniq⟩,⟨#[],rfl,rfl,fun j y u hy hu=>by simp at hy⟩,?_⟩
 ·cases id<;>simp at h
 ·cases id<;>simp at h
 ·cases id<;>simp at h
 ·exact⟨Nat.lt_of_lt_of_le (M.own b' id h).1 hg.size,(M.own b' id h).2⟩
 ·refine⟨Nat.lt_of_lt_of_le (M.imm b' o h).1 hg.size,fun id h1 h2=>?_⟩
  obtain⟨et,sz,e,xs,h3,_⟩:=(M.imm b' o h).2 id h1 h2;cases id<;>simp at h3
 ·cases id with
  |zero=>cases h;exact⟨Nat.zero_lt_one,hwN⟩
  |succ id=>simp at h
 ·obtain⟨id,et,sz,fz,e,xs,h1,h2⟩:=M.nsub b' h
  cases id with
  |zero=>exact⟨0,_,_,_,_,_,h1,rfl⟩
  |succ id=>simp at h2
 ·exact⟨hg.os,hg.tape,hg.output,hg.size,fun b' yX h=>px b' yX fun he=>(by subst he;rw[qJ]at h;cases h),fun b' id h=>.inl ⟨id,h⟩,fun b' o h=>.inl h,hE,le_refl _⟩
structure BE where
 f:Nat
 args:List AV
 ob:List Ob
 res:AV
 ob':List Ob
def QhV:List BE->Nat->List AV->List Ob->Option (AV×List Ob)
 | [],_,_,_=>none
 |e::r,f,a,o=>match Nat.beq f e.f&&(Q8q (aEq 40) e.args a&&Q8q oEq e.ob o)with
  |true=>some (e.res,e.ob')
  |false=>QhV r f a o
def Qi4:List BE->Prop
 | []=>True
 |e::r=>(Nat.ble (e.f+1) 1000000=true/\BCall prog e.f e.args e.ob e.res e.ob')/\Qi4 r
theorem Qh7:∀{L:List BE},Qi4 L->∀f a o r o',QhV L f a o=some (r,o')->f<1000000/\BCall prog f a o r o'
 | [],_,_,_,_,_,_,h=>by cases h
 |e::r,hg,f,a,o,x,o',h=>by
  unfold QhV at h;split at h
  ·rename_i hb
   simp only[Bool.and_eq_true]at hb;obtain⟨h1,h2,h3⟩:=hb;obtain⟨rfl,rfl⟩:e.res=x/\e.ob'=o':=by simpa using h
   rw[Nat.eq_of_beq_eq_true h1,<-Q3r (Q7F 40) _ _ h2,<-Q3r (fun _ _=>Qku) _ _ h3]
   exact⟨Nat.le_of_ble_eq_true hg.1.1,hg.1.2⟩
  ·exact Qh7 hg.2 f a o x o' h
theorem QqZ{l:List (Nat×FnI)}(h:Qi1 l){L:List BE}(hb:Qi4 L){ask:Nat->List Srt->Bool}(ha:∀T sh,ask T sh=true->Qfw prog T sh/\Q9o prog T sh){lf n f:Nat}{args:List AV}{ob:List Ob}{r:AV}{o':List Ob}
  (hr:QbD (QnB l) (QhV L) ask lf n f args ob=some (r,o')):BCall prog f args ob r o' :=
 (QjV (Qki h) (Qh7 hb) ha n f args ob r o' hr).2
theorem Qns:∀T sh,Qqv T sh=true->Qfw prog T sh/\Q9o prog T sh:=fun _ _ h=>by cases h
