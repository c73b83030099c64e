/- Lemmas, conditions told -/
import Derived.Test.YtlaegncokadkkaaGreatG03
import Derived.Laws.Small
import Derived.Lib.AppendStr
set_option maxRecDepth 99999
set_option maxHeartbeats 0
set_option linter.unusedSimpArgs false
set_option linter.unusedVariables false
namespace Go.Proofs.YtlaegncokadkkaaGreat
open List(getElem?_eq_getElem getElem?_take getElem?_drop mem_of_mem_take length_take getElem?_append_left take_nil map_cons map_nil mem_cons_self mem_cons_of_mem getElem?_map getElem?_eq_none append_assoc length_cons nil_append mem_map map_map getElem?_set_self getElem?_set_ne size_toArray)
open Nat(add_zero le_refl add_assoc ne_of_lt lt_of_lt_of_le add_mul)
open Option(map_eq_some_iff map_some)
open Go.RowKit Go.Lib
def Q8g:Op->Bool
 |.load _ _=>true
 |.convert _ _ _=>true
 |_=>false
section
variable {P:Program}{ty:Tys}{w:World}{g:Gh}{s:St}{a:Act}
def Yld(P:Program)(w:World)(g:Gh)(s:St)(a:Act)(o:Oper)(r:Bool)(x:AV):Prop :=
 ∃v,(∀W,(r=true->LeB w W)->(execOp a.eval o).run P W=.ok (.value v) W)/\ARel w g s.ob v x
theorem QfU{S:Sem Value}{W:World}{v:Value}(h:S.run P W=.ok v W):(do pure (Next.value (<-S)):Sem Next).run P W=.ok (.value v) W:=by
 rw[Sem.run_bind,h];rfl
theorem Q1F{o:Oper}{r:Bool}{x:AV}{S:Sem Value}(hx:∀W,(execOp a.eval o).run P W=(do pure (Next.value (<-S)):Sem Next).run P W)
  (h:∃v,(∀W,(r=true->LeB w W)->S.run P W=.ok v W)/\ARel w g s.ob v x):Yld P w g s a o r x:=by
 obtain⟨v,h1,h2⟩:=h;exact⟨v,fun W hW=>by rw[hx,QfU (h1 W hW)],h2⟩
theorem Q9i{W:World}{b o:Nat}{y:Value}(h:w.cell? ⟨b,o,none⟩=some y)(hW:LeB w W):W.cell? ⟨b,o,none⟩=some y :=
 (World.cell?_of_block (hW.block b (World.block_lt_of_cell? w _ h))).trans h
theorem Q74(hT:TyOk P ty){T:Nat}(jB:(Q1 T ty).ok=true){b o:Nat}{cs:List AV}
  (hc:∀(j:Nat) u,cs[j]?=some u->∃y,w.cell? ⟨b,o+j,none⟩=some y/\ARel0 w g s.ob y u/\y.oneCell'=true)
  (hl:(if(Q1 T ty).agg then(Q1 T ty).size else 1)<=cs.length) :
  ∃v,(∀W,LeB w W->(loadVar T ⟨b,o,none⟩).run P W=.ok v W)/\ARel w g s.ob v (mk ty T cs):=by
 have ti:=Q1S hT jB;cases ha:(Q1 T ty).agg with
 |true =>
  rw[ha]at hl;simp only[if_true]at hl
  obtain⟨l,h1,h2⟩:=Q90 (q:=fun j y=>w.cell? ⟨b,o+j,none⟩=some y/\∀u,cs[j]?=some u->ARel0 w g s.ob y u/\y.oneCell'=true) (Q1 T ty).size (fun j hj=>by
   obtain⟨y,h1,h2⟩:=hc j _ (getElem?_eq_getElem (by omega))
   exact⟨y,h1,fun u hu=>by rw[getElem?_eq_getElem (by omega)]at hu;cases hu;exact h2⟩)
  obtain⟨d,hu,hd⟩:=ti.aggd ha;obtain⟨i,z,hi,pP,_⟩:=ti.i;refine⟨.agg l.toArray,fun W hW=>run_loadVar_mid (P:=P) W b o T l d (fun j v hv=>Q9i (h2 j v hv).1 hW) hu (by rcases hd with ⟨_,rfl⟩|⟨_,_,rfl⟩<;>rfl) (by rw[hi];simp[pP,h1]),?_⟩
  rw[mk,ha];simp only[if_true];refine⟨l.toArray,rfl,by simp[h1];omega,fun j y u hy hu=>?_⟩
  rw[getElem?_take]at hu;split at hu
  ·exact(h2 j y (by simpa using hy)).2 u hu
  ·cases hu
 |false =>
  rw[ha]at hl;simp only[Bool.false_eq_true,if_false]at hl;cases cs with
  |nil=>simp at hl
  |cons u r =>
   obtain⟨y,h1,h2,h3⟩:=hc 0 u rfl;refine⟨y,fun W hW=>?_,?_⟩
   ·have:=ti.isAgg W
    rw[ha]at this;have h4:=Q9i h1 hW;rw[add_zero]at h4;simp[loadVar,this,h4]
   ·rw[mk,ha]
    simp only[Bool.false_eq_true,if_false,List.headD_cons];exact h2.to
theorem Qjc(hT:TyOk P ty)(hS:QW w g s a)(M:Mem w g s.ob){o:Oper}{T:Nat}{x:Operand}(ho:o.op=.load T x){cs:List AV}(hcs:Q7k s (ev s x)=some cs)
  (jB:(Q1 T ty).ok=true) (hl:(if(Q1 T ty).agg then(Q1 T ty).size else 1)<=cs.length):Yld P w g s a o true (mk ty T cs):=by
 obtain⟨b,of,hv,hc⟩:=Q8K M (Qo hS x) hcs;obtain⟨v,h1,h2⟩:=Q74 (g:=g) hT jB hc hl;refine Q1F (S:=Instr.loadAt T (a.eval x)) (fun W=>by simp only[execOp,ho]) ⟨v,fun W hW=>?_,h2⟩
 rw[hv];simpa[Instr.loadAt,Instr.sureAddr]using h1 W (hW rfl)
theorem Qfx(hT:TyOk P ty){o:Oper}{T:Nat}{x:Operand}(ho:o.op=.load T x){cs:List AV}
  (hr:∃b of,a.eval x=.pointer (some ⟨b,of,none⟩)/\∀(j:Nat) u,cs[j]?=some u->∃y,w.cell? ⟨b,of+j,none⟩=some y/\PRel w g.A y u)
  {q:Option DP} {z:AV} (h:Qm0 std ty T cs=some (q,z)) (hq:∀r,q=some r->r):Yld P w g s a o true z:=by
 obtain⟨b,of,hv,hc⟩:=hr
 have key:∀ls:List Lf,(if(Q1 T ty).ok=true/\ls.length=(Q1 T ty).size then some (some (std.all (Q87 std cs 0 ls)),mk ty T (Q8N std cs 0 ls))else none)=some (q,z)->Yld P w g s a o true z:=fun ls h=>by
  by_cases hk:(Q1 T ty).ok=true/\ls.length=(Q1 T ty).size
  ·rw[if_pos hk]at h
   simp only[Option.some.injEq,Prod.mk.injEq]at h;obtain⟨rfl,rfl⟩:=h;have hA:Q3R (Q87 std cs 0 ls):=hq _ rfl
   have hl:(if(Q1 T ty).agg then(Q1 T ty).size else 1)<=(Q8N std cs 0 ls).length:=by
    rw[QcH,hk.2];cases nQ:(Q1 T ty).agg with
    |true=>exact le_refl _
    |false=>have:=(Q1S hT hk.1).one nQ;simp;omega
   obtain⟨v,h1,h2⟩:=Q74 (g:=g) hT hk.1 (b:=b) (o:=of) (cs:=Q8N std cs 0 ls) (fun j u hu=>by
    have:=QdU (s:=s) hc ls 0 hA j u hu
    rw[Nat.zero_add]at this;exact this) hl
   refine Q1F (S:=Instr.loadAt T (a.eval x)) (fun W=>by simp only[execOp,ho]) ⟨v,fun W hW=>?_,h2⟩
   rw[hv];simpa[Instr.loadAt,Instr.sureAddr]using h1 W (hW rfl)
  ·rw[if_neg hk]at h;cases h
 unfold Qm0 at h;split at h
 ·exact key _ h
 ·split at h
  ·exact key _ h
  ·cases h
theorem Q4B(hT:TyOk P ty)(hS:QW w g s a){o:Oper}{T:Nat}{x:Operand}{f off t:Nat}(ho:o.op=.fieldAddr T x f)
  (hf:(Q1 T ty).flds[f]?=some (off,t)) (vm:fOk ty t=true) {y:AV}
  (hy:∀b u,ARel w g s.ob (.pointer (some ⟨b,u,none⟩)) (ev s x)->ARel w g s.ob (.pointer (some ⟨b,u+off,none⟩)) y)
  (hp:∃b u,a.eval x=.pointer (some ⟨b,u,none⟩)):Yld P w g s a o false y:=by
 obtain⟨b,u,hv⟩:=hp;have hr:=Qo hS x;rw[hv]at hr;obtain⟨fs,fd,h1,h2,h3⟩:=(QeD hT hf).strct' hf;obtain⟨rfl,rfl⟩:off=fd.offset/\t=fd.type:=by simpa using h3
 simp only[fOk,Bool.and_eq_true,bne_iff_ne,ne_eq]at vm;refine Q1F (S:=Instr.fieldAt T (a.eval x) f) (fun W=>by simp only[execOp,ho]) ⟨_,fun W _=>?_,hy b u hr⟩
 have hs:=(Q1S hT vm.1).size W;rw[hv];simp[Instr.fieldAt,run_underlying h1,h2,Instr.sureAddr,fieldPlace,hs,vm.2,Addr.add_mid]
theorem Q3A{x:AV}{v:Value}(h:ARel w g s.ob v x)(hx:(∃cs,x=.ref cs)\/(∃i o,x=.box i o)):∃b u,v=.pointer (some ⟨b,u,none⟩):=by
 rcases hx with ⟨cs,rfl⟩|⟨i,o,rfl⟩
 ·cases(show PRel w g.A v (.ref cs) from h)with
  |ref b u cs f h1 h2=>exact⟨b,u,rfl⟩
 ·exact⟨_,_,h.1⟩
theorem Qft{cs:List AV}{b u:Nat}(h:ARel w g s.ob (.pointer (some ⟨b,u,none⟩)) (.ref cs))(off:Nat):ARel w g s.ob (.pointer (some ⟨b,u+off,none⟩)) (.ref (cs.drop off)):=by
 cases(show PRel w g.A _ (.ref cs) from h)with
 |ref b u cs f h1 h2 =>
  refine PRel.ref _ _ _ (fun j=>f (off+j)) (fun j x hx=>?_) (fun j x hx=>?_)
  ·rw[getElem?_drop]at hx
   rw[add_assoc];exact h1 _ x hx
  ·rw[getElem?_drop]at hx
   exact h2 _ x hx
theorem Qbm(hT:TyOk P ty){T sz:Nat}(j5:Q56 ty T sz=true){A:Option Addr}{n c:Nat}{k:IntKind}{i:Int}{b o:Nat}(hA:A=some ⟨b,o,none⟩)(h0:0<=i)(h1:i<n)(W:World) :
  (Instr.indexAt T (.slice A n c) (.int k i)).run P W=.ok (.pointer (some ⟨b,o+i.toNat * sz,none⟩)) W:=by
 simp only[Q56,Bool.and_eq_true,beq_iff_eq,bne_iff_ne,ne_eq]at j5;obtain⟨⟨⟨⟨h2,h3⟩,h4⟩,h5⟩,h6⟩:=j5;have hu:=(Q1S hT h2).slice h3;have hs:=(Q1S hT h4).size W;subst hA;have h7:(0<=i/\i<(n:Int))=True:=by simp[h0,h1]
 simp[Instr.indexAt,asIntOf,run_underlying hu,h0,h1,hs,Addr.add_mid,h5]
theorem QdO(hT:TyOk P ty){T:Nat}{x y:AV}{vx:Value}{kn:IntKind}{k:Int}(hk:Qlp ty T k=true)(hr:ARel w g s.ob vx x)
  (hy:∀b u,ARel w g s.ob (.pointer (some ⟨b,u,none⟩)) x->ARel w g s.ob (.pointer (some ⟨b,u+k.toNat * (Q1 (Q1 T ty).elem ty).size,none⟩)) y)
  (hp:∃b u,vx=.pointer (some ⟨b,u,none⟩)):∃v,(∀W,(false=true->LeB w W)->(Instr.indexAt T vx (.int kn k)).run P W=.ok v W)/\ARel w g s.ob v y:=by
 obtain⟨b,u,rfl⟩:=hp;simp only[Qlp,Bool.and_eq_true,decide_eq_true_eq]at hk;obtain⟨h0,h1,h2,h3⟩:=hk;have h0:=Nat.le_of_ble_eq_true h0;have hu:=(Q3N hT (k:=(Q1 T ty).kd) rfl (by omega)).arr h0
 refine⟨_,fun W _=>?_,hy b u hr⟩
 have hs:=(Q1S hT h1).size W;simp[Instr.indexAt,asIntOf,Instr.sureAddr,run_underlying hu,h2,h3,hs,Addr.add_mid]
theorem QmD{xs:List AV}{i:Int}(h0:0<=i)(h1:i<xs.length):xs[i.toNat]?=some (std.at_ xs i):=by
 have h:i.toNat<xs.length:=by omega
 show xs[i.toNat]?=some (xs.getD i.toNat .dead);rw[List.getD_eq_getElem?_getD,getElem?_eq_getElem h];rfl
theorem QaK(hT:TyOk P ty)(hS:QW w g s a)(M:Mem w g s.ob){o:Oper}{T:Nat}{x i:Operand}{q:Option DP}{y:AV}(ho:o.op=.indexAddr T x i)
  (h:Q2e std ty s o.op=some (q,y)) (hq:∀r,q=some r->r):Yld P w g s a o false y:=by
 rw[ho]at h;simp only[Q2e]at h;have hx:=Qo hS x;have hi:=Qo hS i;refine Q1F (S:=Instr.indexAt T (a.eval x) (a.eval i)) (fun W=>by simp only[execOp,ho]) ?_
 split at h
 ·rename_i k n hei
  rw[hei]at hi;rw[hi.valEq];split at h
  ·rename_i sz xs kG
   rw[kG]at hx;split at h
   ·rename_i j5
    simp only[Option.some.injEq,Prod.mk.injEq]at h;obtain⟨rfl,rfl⟩:=h;obtain⟨h0,h1⟩:0<=n/\n<(xs.length:Int):=hq _ rfl;generalize a.eval x=vx at hx;cases(show PRel w g.A _ (.slc sz xs) from hx)with
    |nil=>simp at h1;omega
    |slc b o c _ _ f hc hm hw hcell hrel =>
     refine⟨_,fun W _=>Qbm hT j5 rfl h0 h1 W,?_⟩
     have hg:=QmD h0 h1;have hwx:=hw _ (List.mem_of_getElem? hg);refine PRel.ref _ _ _ (fun j=>f (n.toNat * sz+j)) (fun j u hu=>?_) (fun j u hu=>?_)
     ·have:=Q5N xs hw _ _ hg j (by rw[<-hwx];exact Q4 hu)
      rw[add_assoc];exact hcell _ u (this.trans hu)
     ·have:=Q5N xs hw _ _ hg j (by rw[<-hwx];exact Q4 hu)
      exact hrel _ u (this.trans hu)
   ·cases h
  ·rename_i id ep kG
   rw[kG]at hx;obtain⟨_,et,sz,fz,e,xs,h1,h2,h3⟩:=hx;simp only[h1]at h;split at h
   ·rename_i j5
    simp only[Option.some.injEq,Prod.mk.injEq]at h;obtain⟨rfl,rfl⟩:=h;obtain⟨h4,h5⟩:0<=n/\n<(xs.length:Int):=hq _ rfl;obtain⟨ys,zI,h6,h7,h8⟩:=h3 j5.1;rcases zI.2 with ⟨h9,qX⟩|⟨b,cap,cur,hv,h9⟩
    ·omega
    ·rw[hv]
     refine⟨_,fun W _=>Qbm hT j5.2 rfl h4 h5 W,rfl,et,sz,fz,e,xs,h1,h2,fun _=>⟨b,cap,by simp,h4,h5,?_⟩⟩
     exact⟨ys,hv ▸ zI,by rw[<-hv];exact h6,h7,by rw[<-hv];exact h8⟩
   ·cases h
  ·rename_i id of kG
   rw[kG]at hx;split at h
   ·rename_i hk
    obtain⟨rfl,rfl⟩:=(by simpa using h:none=q/\AV.box id (of+n.toNat * (Q1 (Q1 T ty).elem ty).size)=y)
    refine QdO hT hk hx (fun b u hr=>?_) (Q3A hx (.inr ⟨_,_,rfl⟩))
    obtain⟨h1,h2⟩:=hr;simp only[Value.pointer.injEq,Option.some.injEq,Addr.mk.injEq,and_true]at h1;exact⟨by rw[h1.1,h1.2],h2⟩
   ·cases h
  ·rename_i cs kG
   rw[kG]at hx;split at h
   ·rename_i hk
    obtain⟨rfl,rfl⟩:=(by simpa using h:none=q/\AV.ref (std.drp cs (n.toNat * (Q1 (Q1 T ty).elem ty).size))=y)
    exact QdO hT hk hx (fun b u hr=>Qft hr _) (Q3A hx (.inl ⟨_,rfl⟩))
   ·cases h
  ·cases h
 ·cases h
theorem PRel.cut{b o c n sz:Nat}{xs:List AV}{A:Nat->Nat->Prop}(h:PRel w A (.slice (some ⟨b,o,none⟩) n c) (.slc sz xs)){l k:Nat}(hl:l<=k)(hk:k<=xs.length)(c':Nat)(zH:k-l<=c')(hm':c'<=maxLen) :
  PRel w A (.slice (some ⟨b,o+l * sz,none⟩) (k-l) c') (.slc sz ((xs.drop l).take (k-l))):=by
 cases h with
 |slc b o c _ _ f hc hm hw hcell hrel =>
  have jC:((xs.drop l).take (k-l)).length=k-l:=by simp;omega
  have qn:∀j u,(Qp ((xs.drop l).take (k-l)))[j]?=some u->(Qp xs)[l * sz+j]?=some u:=by
   intro j u hu;have gy:∀x∈(xs.drop l).take (k-l),x.cells.length=sz:=fun x hx=>hw x (List.mem_of_mem_drop (mem_of_mem_take hx))
   have e:Qp xs=Qp (xs.take l)++(Qp ((xs.drop l).take (k-l))++Qp ((xs.drop l).drop (k-l))):=by
    rw[<-List.flatMap_append,List.take_append_drop,<-List.flatMap_append,List.take_append_drop]
   have h1:(Qp (xs.take l)).length=l * sz:=by
    rw[Q22 _ (fun x hx=>hw x (mem_of_mem_take hx)),length_take,Nat.min_eq_left (by omega)]
   rw[e,List.getElem?_append_right (by omega),h1,Nat.add_sub_cancel_left,getElem?_append_left (Q4 hu)]
   exact hu
  have:=PRel.slc (w:=w) (A:=A) b (o+l * sz) c' sz ((xs.drop l).take (k-l)) (fun j=>f (l * sz+j)) (by omega) hm' (fun x hx=>hw x (List.mem_of_mem_drop (mem_of_mem_take hx)))
   (fun j u hu=>by rw[add_assoc];exact hcell _ u (qn j u hu)) (fun j u hu=>hrel _ u (qn j u hu))
  rw[jC]at this;exact this
end
section
variable {P:Program}{ty:Tys}{w:World}{g:Gh}{s:St}{a:Act}
theorem Q3E(hT:TyOk P ty){T sz:Nat}(j5:Q56 ty T sz=true):∃e,P.underlying T=some (.slice e)/\e=(Q1 T ty).elem/\TiOk P e (Q1 e ty)/\(Q1 e ty).size=sz/\0<sz:=by
 simp only[Q56,Bool.and_eq_true,beq_iff_eq,bne_iff_ne,ne_eq]at j5;obtain⟨⟨⟨⟨h2,h3⟩,h4⟩,h5⟩,h6⟩:=j5;exact⟨_,(Q1S hT h2).slice h3,rfl,Q1S hT h4,h5.symm,by omega⟩
theorem Q6w{W:World}{k:IntKind}{i:Int}{y:Nat}{code:BoundsCode}(h0:0<=i)(h1:i<=y):(Instr.sliceBound (.int k i) y code).run P W=.ok i.toNat W:=by
 simp[Instr.sliceBound,asIntOf,h0,h1]
theorem Q68(hT:TyOk P ty){T sz:Nat}(j5:Q56 ty T sz=true)(A:Option Addr)(n c:Nat)(lo hi:Option Value){l h:Nat}
  (yl:lo=none/\l=0\/∃k,lo=some (.int k (l:Int))) (yM:hi=none/\h=n\/∃k,hi=some (.int k (h:Int))) (h1:l<=h) (h2:h<=c) (W:World) :
  (Instr.slice T (.slice A n c) lo hi none).run P W=.ok (.slice (if c=l then A else A.map (·.add (l * sz))) (h-l) (c-l)) W:=by
 obtain⟨e,hu,he,ti,j6,_⟩:=Q3E hT j5;have hs:=ti.size W;rw[j6]at hs
 have e1:∀(k:IntKind),(Instr.sliceBound (.int k (h:Int)) c .sliceAcap).run P W=.ok h W:=fun k=>by
  rw[Q6w (by omega) (by omega)];simp
 have e2:∀(k:IntKind),(Instr.sliceBound (.int k (l:Int)) h .sliceB).run P W=.ok l W:=fun k=>by
  rw[Q6w (by omega) (by omega)];simp
 rcases yl with ⟨rfl,rfl⟩|⟨k,rfl⟩<;>rcases yM with ⟨rfl,rfl⟩|⟨k',rfl⟩ <;>
  simp[Instr.slice,run_underlying hu,Instr.sliceBounds,e1,e2,hs]
theorem Q4z(hT:TyOk P ty){T sz:Nat}(j5:Q56 ty T sz=true)(x:Value)(lo hi mx:Option Value)(W:World) :
  (Instr.sliceAt T x lo hi mx).run P W=(Instr.slice T x lo hi mx).run P W:=by
 obtain⟨e,hu,_⟩:=Q3E hT j5;simp[Instr.sliceAt,run_underlying hu]
theorem Q3u(hT:TyOk P ty){o:Oper}{T:Nat}{x:Operand}{lo hi:Option Operand}(ho:o.op=.slice T x lo hi none){sz:Nat}{xs:List AV}(j5:Q56 ty T sz=true)
  (hx:ARel w g s.ob (a.eval x) (.slc sz xs)) {l h:Int} (yl:lo.map a.eval=none/\l=0\/∃k,lo.map a.eval=some (.int k l)) (yM:hi.map a.eval=none/\h=xs.length\/∃k,hi.map a.eval=some (.int k h))
  (jB:0<=l/\l<=h/\h<=xs.length):Yld P w g s a o false (.slc sz (std.cut xs l h)):=by
 obtain⟨h0,h1,h2⟩:=jB;obtain⟨l,rfl⟩:∃l':Nat,l=l':=⟨l.toNat,by omega⟩
 obtain⟨h,rfl⟩:∃h':Nat,h=h':=⟨h.toNat,by omega⟩
 have ec:std.cut xs l h=(xs.drop l).take (h-l):=by
  show(xs.drop (l:Int).toNat).take ((h:Int)-l).toNat=_
  rw[Int.toNat_natCast,show((h:Int)-l).toNat=h-l by omega]
 rw[ec];have gS:lo.map a.eval=none/\l=0\/∃k,lo.map a.eval=some (.int k (l:Int)):=yl.imp (fun⟨a,b⟩=>⟨a,by omega⟩) id
 have gU:hi.map a.eval=none/\h=xs.length\/∃k,hi.map a.eval=some (.int k (h:Int)):=yM.imp (fun⟨a,b⟩=>⟨a,by omega⟩) id
 refine Q1F (S:=Instr.sliceAt T (a.eval x) (lo.map a.eval) (hi.map a.eval) none) (fun W=>by simp only[execOp,ho];rfl) ?_
 generalize a.eval x=v at hx;cases(show PRel w g.A v (.slc sz xs) from hx)with
 |nil =>
  simp at h2;refine⟨.slice none 0 0,fun W _=>?_,?_⟩
  ·rw[Q4z hT j5,Q68 hT j5 none 0 0 _ _ gS (by simpa using gU) (by omega) (by omega)]
   have:l=0/\h=0:=by omega
   obtain⟨rfl,rfl⟩:=this;simp
  ·simp only[List.drop_nil,take_nil];exact PRel.nil _
 |slc b of c _ _ f hc hm hw hcell hrel =>
  have jF:h<=c:=by omega
  refine⟨_,fun W _=>by rw[Q4z hT j5,Q68 hT j5 _ _ _ _ _ gS gU (by omega) jF],?_⟩
  by_cases e:c=l
  ·rw[if_pos e]
   have hh:h-l=0:=by omega
   rw[hh];simp only[List.take_zero];exact PRel.slc (w:=w) (A:=g.A) b of (c-l) sz [] f (by simp) (by omega) (by simp) (fun j u hu=>by simp[Qp]at hu) (fun j u hu=>by simp[Qp]at hu)
  ·rw[if_neg e]
   have:=PRel.cut (PRel.slc (w:=w) (A:=g.A) b of c sz xs f hc hm hw hcell hrel) (l:=l) (k:=h) (by omega) (by omega) (c-l) (by omega) (by omega)
   have e2:((some (⟨b,of,none⟩:Addr)).map (·.add (l * sz)))=some ⟨b,of+l * sz,none⟩:=by simp[Addr.add_mid]
   rw[e2];exact this
theorem Qjl{et sz:Nat}{b c n k:Nat}{ys:List Value}(h:w.ownsRow 0 et sz (.slice (some ⟨b,0,none⟩) n c) n ys)(hk:k<=n):w.ownsRow 0 et sz (.slice (some ⟨b,0,none⟩) k c) k (ys.take (k * sz)):=by
 obtain⟨h1,h2⟩:=h;rcases h2 with ⟨h2,_⟩|⟨b',cap,cur,hv,h3,h4,h5,h6,h7,h8⟩
 ·cases h2
 ·obtain⟨rfl,rfl⟩:b=b'/\c=cap:=by simpa using hv
  have kH:k * sz<=n * sz:=Nat.mul_le_mul_right _ hk;refine⟨by rw[length_take,h1];omega,.inr ⟨b,c,cur,rfl,h3,h4,by omega,h6,h7,?_⟩⟩
  rw[<-h8,List.take_take,Nat.min_eq_left kH]
theorem RowV.take{id et sz:Nat}{v:Value}{xs:List AV}(h:RowV w g id et sz v xs){b c:Nat}(hv:v=.slice (some ⟨b,0,none⟩) xs.length c){k:Nat}(hk:k<=xs.length) :
  RowV w g id et sz (.slice (some ⟨b,0,none⟩) k c) (xs.take k):=by
 subst hv;obtain⟨ys,ho,hG,jT,hw,qu⟩:=h;have hl:(xs.take k).length=k:=by rw[length_take];omega
 refine⟨ys.take (k * sz),by rw[hl];exact Qjl ho hk,fun b' h=>hG b' h,?_,fun x hx=>hw x (mem_of_mem_take hx),fun b' h=>qu.1 b' h,fun he j y hy hj=>?_⟩
 ·rw[QaX hw hk]
  exact jT.take _
 ·have old:∀{j:Nat}{y:Value},(ys.take (k * sz))[j]?=some y->ys[j]?=some y:=fun {j y} h=>by
   rw[getElem?_take]at h;split at h
   ·exact h
   ·cases h
  obtain⟨h1,h2⟩:=qu.2 he j y (old hy) hj;exact⟨h1,fun i z b hz hi=>h2 i z b (old hz) hi⟩
theorem Qat(hT:TyOk P ty){o:Oper}{T:Nat}{x:Operand}{hi:Operand}(ho:o.op=.slice T x none (some hi) none){id ep et sz:Nat}{fz:Bool}{e:Nat}{xs:List AV}(j5:Q56 ty T sz=true)
  (h1:s.ob[id]?=some (.row et sz fz e xs)) (he:e=ep) (hx:RowV w g id et sz (a.eval x) xs) {k:IntKind} {h:Int} (yM:a.eval hi=.int k h)
  (jB:0<=h/\h<=xs.length):Yld P w g s a o false (.rowk id ep h):=by
 obtain⟨h,rfl⟩:∃h':Nat,h=h':=⟨h.toNat,by omega⟩
 have jF:h<=xs.length:=by omega
 refine Q1F (S:=Instr.sliceAt T (a.eval x) none (some (a.eval hi)) none) (fun W=>by simp only[execOp,ho];rfl) ?_
 have xS:=hx;obtain⟨ys,jG,hG,jT,hw⟩:=hx;rcases jG.2 with ⟨h2,h3⟩|⟨b,cap,cur,hv,h3,h4,h5,h6,h7,h8⟩
 ·have nR:xs=[]:=List.eq_nil_of_length_eq_zero h3
  subst nR;obtain rfl:h=0:=by simpa using jF
  refine⟨.slice none 0 0,fun W _=>?_,rfl,et,sz,fz,e,[],h1,by omega,fun _=>⟨by omega,by simp,?_⟩⟩
  ·rw[h2,Q4z hT j5,Q68 hT j5 none 0 0 none _ (.inl ⟨rfl,rfl⟩) (.inr ⟨k,by rw[yM]⟩) (by omega) (by omega)]
   simp
  ·simp only[take_nil]
   rw[h2]at xS;exact xS
 ·have hc:h<=cap:=by omega
  refine⟨.slice (some ⟨b,0,none⟩) h cap,fun W _=>?_,rfl,et,sz,fz,e,xs,h1,by omega,fun _=>⟨by omega,jB.2,?_⟩⟩
  ·rw[hv,Q4z hT j5,Q68 hT j5 _ _ _ none _ (.inl ⟨rfl,rfl⟩) (.inr ⟨k,by rw[yM]⟩) (by omega) hc]
   simp[Addr.add_mid]
  ·rw[Int.toNat_natCast]
   exact xS.take hv jF
theorem Q4Z{o:Oper}{x:AV}{v:Value}(h:∀W,(execOp a.eval o).run P W=.ok (.value v) W)(hr:ARel w g s.ob v x)(r:Bool):Yld P w g s a o r x:=⟨v,fun W _=>h W,hr⟩
theorem Qcq(hS:QW w g s a)(x:Operand):ARel w g s.ob (a.eval x) (evk s x):=by
 cases x with
 |tmp t=>exact hS t
 |const v=>cases v<;>first|exact Qo hS (.const _)|rfl
 |global _=>exact Qo hS (.global _)
 |func _=>exact Qo hS (.func _)
theorem QdW(hS:QW w g s a){o:Oper}{x:Operand}(ho:o.op=.move x\/o.op=.assign x):Yld P w g s a o false (evk s x):=by
 refine Q4Z (v:=a.eval x) (fun W=>?_) (Qcq hS x) false
 rcases ho with ho|ho<;>simp only[execOp,ho]<;>rfl
theorem QhX(hS:QW w g s a){o:Oper}{c x y:Operand}(ho:o.op=.pick c x y){t:Bool}(hc:ev s c=.val (.bool t)) :
  Yld P w g s a o false (match t with|true=>evk s x|false=>evk s y):=by
 have h:=Qo hS c;rw[hc]at h;have h:=h.valEq;cases t with
 |true=>exact Q4Z (v:=a.eval x) (fun W=>by simp[execOp,ho,h,asBool]) (Qcq hS x) false
 |false=>exact Q4Z (v:=a.eval y) (fun W=>by simp[execOp,ho,h,asBool]) (Qcq hS y) false
theorem Q32(hS:QW w g s a){o:Oper}{x:Operand}(ho:o.op=.nilCheck x){v:Value}(hv:a.eval x=v)(hn:(∃ad,v=.pointer (some ad))\/∃f b c,v=.func (.func f) b c):Yld P w g s a o false (ev s x):=by
 refine Q4Z (v:=a.eval x) (fun W=>?_) (Qo hS x) false
 rw[hv];rcases hn with ⟨ad,rfl⟩|⟨f,b,c,rfl⟩<;>simp only[execOp,ho,hv]<;>rfl
theorem Qcf(hS:QW w g s a){o:Oper}{x:Operand}(ho:o.op=.nilCheck x){y:AV}(hx:ev s x=.opt y)(hq:Q5K y/\Q8z y=false):Yld P w g s a o false (.ref (Qfs y)):=by
 have hr:=Qo hS x;rw[hx]at hr;have hp:PRel w g.A (a.eval x) y:=(PRel.ofOpt (show PRel w g.A _ (.opt _) from hr)).1;rcases QcD hp hq.1 with ⟨h1,_⟩|⟨_,b,o',hv,hrel⟩
 ·rw[h1]at hq;cases hq.2
 ·refine Q4Z (v:=a.eval x) (fun W=>?_) hrel.to false
  rw[hv];simp only[execOp,ho,hv];rfl
theorem Qe8(hS:QW w g s a){o:Oper}{t:Operand}{i:Nat}(ho:o.op=.extract t i){vs:List AV}(ht:ev s t=.tup vs){x:AV}(hx:vs[i]?=some x):Yld P w g s a o false x:=by
 have h:=Qo hS t;rw[ht]at h;obtain⟨ys,h1,h2,h3⟩:=h;have hi:i<ys.size:=by rw[h2];exact Q4 hx
 refine Q1F (S:=Instr.extract (a.eval t) i) (fun W=>by simp only[execOp,ho]) ⟨ys[i],fun W _=>?_,(h3 i _ x (Array.getElem?_eq_getElem hi) hx).to⟩
 rw[h1];simp[Instr.extract,hi]
theorem Q5l{o:Oper}{b:Builtin}{args:Array Operand}{r:Array TypeId}(ho:o.op=.call { callee:=.builtin b,args:=args,argTypes:=r })(W:World) :
  ∃cs,(execOp a.eval o).run P W=(builtin b r o.type cs (args.map a.eval)).run P W:=by
 refine⟨args.map fun|.const _=>true|_=>false,?_⟩
 simp only[execOp,ho,resolve,Sem.run_bind,Sem.run_pure,Result.andThen_ok,invoke];rfl
theorem Qhr(hT:TyOk P ty)(hS:QW w g s a){o:Oper}{T:Nat}{x i:Operand}(ho:o.op=.index T x i){b:ByteArray}{k:IntKind}{n:Int}(hx:ev s x=.val (.string b))(hi:ev s i=.val (.int k n))
  (hk:(Q1 T ty).kd=6) (h0:0<=n) (h1:n<b.size):Yld P w g s a o false (.val (.int .u8 (std.idxS b n))):=by
 have hu:=(Q3N hT hk (by decide)).str hk
 have h2:=Qo hS x;have h3:=Qo hS i;rw[hx]at h2;rw[hi]at h3;have jE:n.toNat<b.size:=by omega
 refine Q1F (S:=Instr.index T (a.eval x) (a.eval i)) (fun W=>by simp only[execOp,ho]) ⟨.int .u8 (b[n.toNat]).toNat,fun W _=>?_,?_⟩
 ·rw[h2.valEq,h3.valEq]
  simp[Instr.index,asIntOf,run_underlying hu,h0,jE]
 ·have e:std.idxS b n=((b[n.toNat]).toNat:Int):=by
   show((b.data.getD n.toNat 0).toNat:Int)=_
   rw[Array.getD_eq_getD_getElem?,Array.getElem?_eq_getElem (by simpa using jE)]
   rfl
  rw[e];exact .val _ rfl
theorem Q5B{o:Oper}{b:Builtin}{args:Array Operand}{r:Array TypeId}(ho:o.op=.call { callee:=.builtin b,args:=args,argTypes:=r }){F:Array TypeId->TypeId->Array Value->Sem Value}
  (hF:∀cs vs,builtin b r o.type cs vs=(do pure (Next.value (<-F r o.type vs)))) {rd:Bool} {x:AV}
  (h:∃v,(∀W,(rd=true->LeB w W)->(F r o.type (args.map a.eval)).run P W=.ok v W)/\ARel w g s.ob v x):Yld P w g s a o rd x:=by
 obtain⟨v,h1,h2⟩:=h;refine⟨v,fun W hW=>?_,h2⟩
 obtain⟨cs,hc⟩:=Q5l (P:=P) (a:=a) ho W;rw[hc,hF,QfU (h1 W hW)]
theorem Ql5(hT:TyOk P ty)(hS:QW w g s a)(M:Mem w g s.ob){o:Oper}{args:Array Operand}{r:Array TypeId}(ho:o.op=.call { callee:=.builtin .len,args:=args,argTypes:=r }){q:Option DP}{y:AV}
  (h:Q2e std ty s o.op=some (q,y)):Yld P w g s a o false y:=by
 rw[ho]at h;simp only[Q2e]at h;refine Q5B (F:=Builtin.len_) ho (fun _ _=>rfl) ?_
 split at h
 ·rename_i x T rest hargs hr
  have kI:args=#[x]:=by
   apply Array.ext';simpa using hargs
  have vQ:r[0]?=some T:=by
   rw[<-Array.getElem?_toList,hr];rfl
  subst kI;have hv:=Qo hS x;have hm:(#[x]:Array Operand).map a.eval=#[a.eval x]:=by simp
  rw[hm];split at h
  ·rename_i b hb
   split at h
   ·rename_i hk
    simp only[Option.some.injEq,Prod.mk.injEq]at h;obtain⟨rfl,rfl⟩:=h;rw[hb]at hv;have hu:=(Q3N hT hk (by decide)).str hk
    refine⟨_,fun W _=>?_,.val _ rfl⟩
    rw[hv.valEq];simp[Builtin.len_,vQ,run_underlying hu,goInt,std]
   ·cases h
  ·rename_i hb
   split at h
   ·rename_i hk
    simp only[Option.some.injEq,Prod.mk.injEq]at h;obtain⟨rfl,rfl⟩:=h;rw[hb]at hv;have hu:=(Q9R hT hk).slice hk;refine⟨_,fun W _=>?_,.val _ rfl⟩
    rw[hv.valEq];simp[Builtin.len_,vQ,run_underlying hu,goInt]
   ·cases h
  ·split at h
   ·rename_i sz xs he
    split at h
    ·rename_i hk
     simp only[Option.some.injEq,Prod.mk.injEq]at h;obtain⟨rfl,rfl⟩:=h;obtain⟨A,c,ys,h1,_,_⟩:=Q40 M hv he;have hu:=(Q9R hT hk).slice hk;refine⟨_,fun W _=>?_,.val _ rfl⟩
     rw[h1];simp[Builtin.len_,vQ,run_underlying hu,goInt,std]
    ·cases h
   ·cases h
 ·cases h
theorem Qlr(hS:QW w g s a){o:Oper}{args:Array Operand}{r:Array TypeId}(ho:o.op=.call { callee:=.builtin .min,args:=args,argTypes:=r }){q:Option DP}{y:AV}
  (h:Q2e std ty s o.op=some (q,y)):Yld P w g s a o false y:=by
 rw[ho]at h;simp only[Q2e]at h;refine Q5B (F:=Builtin.min_) ho (fun _ _=>rfl) ?_
 split at h
 ·rename_i k n k' m he
  simp only[Option.some.injEq,Prod.mk.injEq]at h;obtain⟨rfl,rfl⟩:=h
  obtain⟨x,y,rfl⟩:∃x y,args=#[x,y]:=by
   have:=congrArg List.length he
   simp at this;match args,this with
   |⟨[x,y]⟩,_=>exact⟨x,y,rfl⟩
  simp only[map_cons,map_nil,List.cons.injEq,and_true]at he;have h1:=Qo hS x;have h2:=Qo hS y;rw[he.1]at h1;rw[he.2]at h2;refine⟨_,fun W _=>?_,.val _ rfl⟩
  simp[Builtin.min_,h1.valEq,h2.valEq,Builtin.min2,std]
 ·cases h
theorem QkK(hS:QW w g s a){o:Oper}{args:Array Operand}{r:Array TypeId}(ho:o.op=.call { callee:=.builtin .max,args:=args,argTypes:=r }){q:Option DP}{y:AV}
  (h:Q2e std ty s o.op=some (q,y)):Yld P w g s a o false y:=by
 rw[ho]at h;simp only[Q2e]at h;refine Q5B (F:=Builtin.max_) ho (fun _ _=>rfl) ?_
 split at h
 ·rename_i k n k' m he
  simp only[Option.some.injEq,Prod.mk.injEq]at h;obtain⟨rfl,rfl⟩:=h
  obtain⟨x,y,rfl⟩:∃x y,args=#[x,y]:=by
   have:=congrArg List.length he
   simp at this;match args,this with
   |⟨[x,y]⟩,_=>exact⟨x,y,rfl⟩
  simp only[map_cons,map_nil,List.cons.injEq,and_true]at he;have h1:=Qo hS x;have h2:=Qo hS y;rw[he.1]at h1;rw[he.2]at h2;refine⟨_,fun W _=>?_,.val _ rfl⟩
  simp[Builtin.max_,h1.valEq,h2.valEq,Builtin.max2,std]
 ·cases h
end
theorem Q52(k:IntKind)(n:Int)(h:k.min<=n/\n<=k.max):k.wrap n=n:=by
 cases k<;>simp[IntKind.wrap,IntKind.min,IntKind.max,IntKind.signed,IntKind.bits]at h ⊢<;>omega
section
variable {P:Program}{ty:Tys}{w:World}{g:Gh}{s:St}{a:Act}
theorem QeM{op:BinOp}{t:TypeId}{x y:Operand}{u v:Value}(W:World)(h1:u≠.nilIface)(h2:∀cs,u≠.agg cs):(eqGuard op t x y u v).run P W=.ok () W:=by
 unfold eqGuard;cases u<;>first|exact absurd rfl h1|exact absurd rfl (h2 _)|(cases op<;>rfl)
theorem QR{o:Oper}{op:BinOp}{T T':Nat}{x y:Operand}(ho:o.op=.binOp op T x y T'){u v r:Value}{rd:Bool}(hx:a.eval x=u)(hy:a.eval y=v)
  (h1:u≠.nilIface) (h2:∀cs,u≠.agg cs) (hr:∀W,(binOp op T u v).run P W=.ok r W) (zU:r.oneCell'=true):Yld P w g s a o rd (.val r):=by
 refine Q1F (S:=do eqGuard op T x y (a.eval x) (a.eval y);binOp op T (a.eval x) (a.eval y)) (fun W=>by simp only[execOp,ho]) ⟨r,fun W _=>?_,.val _ zU⟩
 rw[Sem.run_bind,hx,hy,QeM W h1 h2];exact hr W
theorem Qds{op:BinOp}{T:Nat}{k:IntKind}{m n:Int}{q:Option DP}{v:Value}(h:QmU std op k m n=some (q,v))(hq:∀r,q=some r->r)(W:World) :
  (binOp op T (.int k m) (.int k n)).run P W=.ok v W/\v.oneCell'=true:=by
 cases op<;>simp only[QmU,Option.some.injEq,Prod.mk.injEq]at h<;>try (cases h;done)
 all_goals obtain⟨rfl,rfl⟩:=h
 case add =>
  have h1:k.wrap (m+n)=m+n:=Q52 k _ (hq _ rfl);exact⟨by simp[binOp,Op.intArith,std,h1],rfl⟩
 case sub =>
  have h1:k.wrap (m-n)=m-n:=Q52 k _ (hq _ rfl);exact⟨by simp[binOp,Op.intArith,std,h1],rfl⟩
 case mul =>
  have h1:k.wrap (m * n)=m * n:=Q52 k _ (hq _ rfl);exact⟨by simp[binOp,Op.intArith,std,h1],rfl⟩
 case quo =>
  obtain⟨h0,h1,_⟩:=hq _ rfl;have h0:n≠0:=h0;have h1:k.wrap (m.tdiv n)=m.tdiv n:=Q52 k _ h1;exact⟨by simp[binOp,Op.intDiv,std,h0,h1],rfl⟩
 case rem =>
  obtain⟨h0,h1,_⟩:=hq _ rfl;have h0:n≠0:=h0;have h1:k.wrap (m.tmod n)=m.tmod n:=Q52 k _ h1;exact⟨by simp[binOp,Op.intDiv,std,h0,h1],rfl⟩
 case and=>exact⟨by simp[binOp,Op.intBits,std,Q5q],rfl⟩
 case or=>exact⟨by simp[binOp,Op.intBits,std,Q5q],rfl⟩
 case xor=>exact⟨by simp[binOp,Op.intBits,std,Q5q],rfl⟩
 case andNot=>exact⟨by simp[binOp,Op.intBits,std,Q5q],rfl⟩
 all_goals exact⟨by simp[binOp,Op.intCmp,std,bne],rfl⟩
theorem Q2x{T:Nat}(hT:TyOk P ty)(hk:(Q1 T ty).kd=2)(A:Option Addr)(n c n' c':Nat)(W:World) :
  (binOp .eql T (.slice A n c) (.slice none n' c')).run P W=.ok (.bool A.isNone) W/\(binOp .neq T (.slice A n c) (.slice none n' c')).run P W=.ok (.bool !A.isNone) W:=by
 have hu:=(Q3N hT hk (by decide)).slk hk
 have h:(Op.equal T (.slice A n c) (.slice none n' c')).run P W=.ok A.isNone W:=by
  unfold Op.equal Op.maxDepth;rw[Op.equalIn];cases A<;>simp[run_underlying hu]
 constructor
 ·simp only[binOp];simp[h]
 ·simp only[binOp];simp[h]
theorem Q2i{T:Nat}(hT:TyOk P ty)(hk:(Q1 T ty).kd=4)(A:Option Addr)(W:World) :
  (binOp .eql T (.pointer A) (.pointer none)).run P W=.ok (.bool A.isNone) W/\(binOp .neq T (.pointer A) (.pointer none)).run P W=.ok (.bool !A.isNone) W:=by
 obtain⟨e,hu⟩:=(Q3N hT hk (by decide)).ptr hk
 have h:(Op.equal T (.pointer A) (.pointer none)).run P W=.ok A.isNone W:=by
  unfold Op.equal Op.maxDepth;rw[Op.equalIn];cases A<;>simp[run_underlying hu]
 constructor
 ·simp only[binOp];simp[h]
 ·simp only[binOp];simp[h]
theorem Q3n{T:Nat}(hT:TyOk P ty)(hk:(Q1 T ty).kd=7)(W:World) :
  (∀f a c,(binOp .eql T (.func f a c) .nilFunc).run P W=.ok (.bool false) W/\(binOp .neq T (.func f a c) .nilFunc).run P W=.ok (.bool true) W) /\
  (binOp .eql T .nilFunc .nilFunc).run P W=.ok (.bool true) W/\(binOp .neq T .nilFunc .nilFunc).run P W=.ok (.bool false) W:=by
 obtain⟨x,y,z,hu⟩:=(Q3N hT hk (by decide)).fnc hk
 have h1:∀f a c,(Op.equal T (.func f a c) .nilFunc).run P W=.ok false W:=fun f a c=>by
  unfold Op.equal Op.maxDepth;rw[Op.equalIn];simp[run_underlying hu]
 have h2:(Op.equal T .nilFunc .nilFunc).run P W=.ok true W:=by
  unfold Op.equal Op.maxDepth;rw[Op.equalIn];simp[run_underlying hu]
 refine⟨fun f a c=>⟨?_,?_⟩,?_,?_⟩
 ·simp only[binOp];simp[h1]
 ·simp only[binOp];simp[h1]
 ·simp only[binOp];simp[h2]
 ·simp only[binOp];simp[h2]
theorem Qij{v:Value}{f id o:Nat}{t:Bool}(h:ARel w g s.ob v (.clo f id o t)):∃k a c,v=.func k a c:=by
 rw[h.1];cases t<;>exact⟨_,_,_,rfl⟩
theorem QhI(hT:TyOk P ty)(hS:QW w g s a)(M:Mem w g s.ob){o:Oper}{op:BinOp}{T T':Nat}{x y:Operand}(ho:o.op=.binOp op T x y T'){q:Option DP}{z:AV}
  (h:Q2e std ty s o.op=some (q,z)) (hq:∀r,q=some r->r):Yld P w g s a o false z:=by
 rw[ho]at h;simp only[Q2e]at h;have hx:=Qo hS x;have hy:=Qo hS y;generalize hX:ev s x=X at h hx;generalize hY:ev s y=Y at h hy;unfold QnW at h;split at h
 ·-- integers
  rename_i k m k' n;split at h
  ·simp only[Option.some.injEq,Prod.mk.injEq]at h
   obtain⟨rfl,rfl⟩:=h;have h0:¬n<0:=Int.not_lt.2 (hq _ rfl);exact QR ho hx.valEq hy.valEq (by simp) (by simp) (fun W=>by simp[binOp,Op.shift,std,QgQ,h0]) rfl
  ·simp only[Option.some.injEq,Prod.mk.injEq]at h
   obtain⟨rfl,rfl⟩:=h;have h0:¬n<0:=Int.not_lt.2 (hq _ rfl);have h1:(if n<(k.bits:Int)then n else(k.bits:Int)).toNat=min n.toNat k.bits:=by split<;>omega
   exact QR ho hx.valEq hy.valEq (by simp) (by simp) (fun W=>by simp[binOp,Op.shift,std,Qoo,h0,h1]) rfl
  split at h
  ·rename_i hk
   subst hk;obtain⟨⟨q',v⟩,h1,h2⟩:=map_eq_some_iff.1 h;simp only[Prod.mk.injEq]at h2;obtain⟨rfl,rfl⟩:=h2;exact QR ho hx.valEq hy.valEq (by simp) (by simp) (fun W=>(Qds h1 hq W).1) (Qds (P:=P) (T:=T) h1 hq w).2
  ·cases h
 ·-- texts
  rename_i b c;cases op<;>simp only at h<;>try (cases h;done)
  all_goals
   simp only[Option.some.injEq,Prod.mk.injEq]at h;obtain⟨rfl,rfl⟩:=h
  case add =>
   have hc:((b.size+c.size:Nat):Int)<=IntKind.i64.max:=hq _ rfl;have zH:((b.size+c.size:Nat):Int)<=9223372036854775807:=hc;have yO:(b.size:Int)+c.size<=9223372036854775807:=by omega
   exact QR ho hx.valEq hy.valEq (by simp) (by simp) (fun W=>by simp[binOp,Op.stringOp,std,yO]) rfl
  all_goals exact QR ho hx.valEq hy.valEq (by simp) (by simp) (fun W=>by simp[binOp,Op.stringOp,std]) rfl
 ·-- bools
  rename_i b c;split at h
  ·rename_i hk
   have hu:=(Q3N hT hk (by decide)).bool hk
   cases op<;>simp only at h<;>try (cases h;done)
   all_goals
    simp only[Option.some.injEq,Prod.mk.injEq]at h;obtain⟨rfl,rfl⟩:=h
   ·exact QR ho hx.valEq hy.valEq (by simp) (by simp) (fun W=>run_eql_bool W T b c hu) rfl
   ·exact QR ho hx.valEq hy.valEq (by simp) (by simp) (fun W=>run_neq_bool W T b c hu) rfl
  ·cases h
 ·-- nil slices
  split at h
  ·rename_i hk
   cases op<;>simp only at h<;>try (cases h;done)
   all_goals
    simp only[Option.some.injEq,Prod.mk.injEq]at h;obtain⟨rfl,rfl⟩:=h
   ·exact QR ho hx.valEq hy.valEq (by simp) (by simp) (fun W=>(Q2x hT hk _ _ _ _ _ W).1) rfl
   ·exact QR ho hx.valEq hy.valEq (by simp) (by simp) (fun W=>(Q2x hT hk _ _ _ _ _ W).2) rfl
  ·cases h
 ·split at h
  ·rename_i hk
   cases op<;>simp only at h<;>try (cases h;done)
   all_goals
    simp only[Option.some.injEq,Prod.mk.injEq]at h;obtain⟨rfl,rfl⟩:=h
   ·exact QR ho hx.valEq hy.valEq (by simp) (by simp) (fun W=>(Q2i hT hk none W).1) rfl
   ·exact QR ho hx.valEq hy.valEq (by simp) (by simp) (fun W=>(Q2i hT hk none W).2) rfl
  ·cases h
 ·-- an address that is there
  obtain⟨b,u,hv⟩:=Q3A hx (.inl ⟨_,rfl⟩);split at h
  ·rename_i hk
   cases op<;>simp only at h<;>try (cases h;done)
   all_goals
    simp only[Option.some.injEq,Prod.mk.injEq]at h;obtain⟨rfl,rfl⟩:=h
   ·exact QR ho hv hy.valEq (by simp) (by simp) (fun W=>(Q2i hT hk _ W).1) rfl
   ·exact QR ho hv hy.valEq (by simp) (by simp) (fun W=>(Q2i hT hk _ W).2) rfl
  ·cases h
 ·obtain⟨b,u,hv⟩:=Q3A hx (.inr ⟨_,_,rfl⟩)
  split at h
  ·rename_i hk
   cases op<;>simp only at h<;>try (cases h;done)
   all_goals
    simp only[Option.some.injEq,Prod.mk.injEq]at h;obtain⟨rfl,rfl⟩:=h
   ·exact QR ho hv hy.valEq (by simp) (by simp) (fun W=>(Q2i hT hk _ W).1) rfl
   ·exact QR ho hv hy.valEq (by simp) (by simp) (fun W=>(Q2i hT hk _ W).2) rfl
  ·cases h
 ·-- a pointer by content
  rename_i y0;obtain⟨hp,hpt⟩:PRel w g.A _ _/\Q5K _:=PRel.ofOpt (show PRel w g.A _ (.opt _) from hx)
  have key:∃A,a.eval x=.pointer A/\A.isNone=Q8z y0:=by
   rcases QcD hp hpt with ⟨h1,h2⟩|⟨h1,b,o,h2,_⟩
   ·exact⟨none,h2,h1.symm⟩
   ·exact⟨_,h2,h1.symm⟩
  obtain⟨A,hv,hA⟩:=key;split at h
  ·rename_i hk
   cases op<;>simp only at h<;>try (cases h;done)
   all_goals
    simp only[Option.some.injEq,Prod.mk.injEq]at h;obtain⟨rfl,rfl⟩:=h
   ·exact QR ho hv hy.valEq (by simp) (by simp) (fun W=>by rw[(Q2i hT hk A W).1,hA];rfl) rfl
   ·exact QR ho hv hy.valEq (by simp) (by simp) (fun W=>by rw[(Q2i hT hk A W).2,hA];rfl) rfl
  ·cases h
 ·-- functions and nil
  obtain⟨k,b,c,hv⟩:=Qij hx;split at h
  ·rename_i hk
   cases op<;>simp only at h<;>try (cases h;done)
   all_goals
    simp only[Option.some.injEq,Prod.mk.injEq]at h;obtain⟨rfl,rfl⟩:=h
   ·exact QR ho hv hy.valEq (by simp) (by simp) (fun W=>((Q3n hT hk W).1 k b c).1) rfl
   ·exact QR ho hv hy.valEq (by simp) (by simp) (fun W=>((Q3n hT hk W).1 k b c).2) rfl
  ·cases h
 ·split at h
  ·rename_i hk
   cases op<;>simp only at h<;>try (cases h;done)
   all_goals
    simp only[Option.some.injEq,Prod.mk.injEq]at h;obtain⟨rfl,rfl⟩:=h
   ·exact QR ho hx.valEq hy.valEq (by simp) (by simp) (fun W=>((Q3n hT hk W).1 _ _ _).1) rfl
   ·exact QR ho hx.valEq hy.valEq (by simp) (by simp) (fun W=>((Q3n hT hk W).1 _ _ _).2) rfl
  ·cases h
 ·split at h
  ·rename_i hk
   cases op<;>simp only at h<;>try (cases h;done)
   all_goals
    simp only[Option.some.injEq,Prod.mk.injEq]at h;obtain⟨rfl,rfl⟩:=h
   ·exact QR ho hx.valEq hy.valEq (by simp) (by simp) (fun W=>(Q3n hT hk W).2.1) rfl
   ·exact QR ho hx.valEq hy.valEq (by simp) (by simp) (fun W=>(Q3n hT hk W).2.2) rfl
  ·cases h
 ·-- a slice that is not empty
  split at h
  ·rename_i sz xs he
   split at h
   ·rename_i hk
    obtain⟨A,c,ys,h1,hr,_⟩:=Q40 M hx he
    have jL:xs≠[]->A.isNone=false:=fun hn=>by
     have:0<xs.length:=List.length_pos_iff.2 hn
     cases A with
     |none=>have:=hr.nil rfl;have:=hr.le;omega
     |some _=>rfl
    cases op<;>simp only at h<;>try (cases h;done)
    all_goals
     simp only[Option.some.injEq,Prod.mk.injEq]at h;obtain⟨rfl,rfl⟩:=h
    ·exact QR ho h1 hy.valEq (by simp) (by simp) (fun W=>by rw[(Q2x hT hk A _ _ _ _ W).1,jL (hq _ rfl)]) rfl
    ·exact QR ho h1 hy.valEq (by simp) (by simp) (fun W=>by rw[(Q2x hT hk A _ _ _ _ W).2,jL (hq _ rfl)];rfl) rfl
   ·cases h
  ·cases h
 ·cases h
end
section
variable {P:Program}{ty:Tys}{w:World}{g:Gh}{s:St}{a:Act}
theorem Qk5(hS:QW w g s a){o:Oper}{op:UnOp}{T:Nat}{x:Operand}(ho:o.op=.unOp op T x){q:Option DP}{z:AV}
  (h:Q2e std ty s o.op=some (q,z)) (hq:∀r,q=some r->r):Yld P w g s a o false z:=by
 rw[ho]at h;simp only[Q2e]at h;have hx:=Qo hS x;refine Q1F (S:=Op.unary op (a.eval x)) (fun W=>by simp only[execOp,ho]) ?_
 split at h
 ·rename_i b hb
  rw[hb]at hx;simp only[Option.some.injEq,Prod.mk.injEq]at h;obtain⟨rfl,rfl⟩:=h;exact⟨_,fun W _=>by rw[hx.valEq];rfl,.val _ rfl⟩
 ·rename_i k n hb
  rw[hb]at hx;simp only[Option.some.injEq,Prod.mk.injEq]at h;obtain⟨rfl,rfl⟩:=h;have h1:k.wrap (0-n)=0-n:=Q52 k _ (hq _ rfl);exact⟨.int k (0-n),fun W _=>by rw[hx.valEq];simp only[Op.unary,Op.intArith,h1];rfl,.val _ rfl⟩
 ·cases h
theorem Q9P{xs:List AV}(h:std.isB xs):Qp xs=xs:=by
 have h:∀x∈xs,∃n:UInt8,x=.val (.int .u8 n.toNat):=h;induction xs with
 |nil=>rfl
 |cons x r ih =>
  obtain⟨n,rfl⟩:=h x mem_cons_self;rw[Qp,List.flatMap_cons];have:=ih (fun x hx=>h x (mem_cons_of_mem _ hx)) (fun x hx=>h x (mem_cons_of_mem _ hx))
  rw[Qp]at this;rw[this];rfl
theorem QgN{A:Nat->Nat->Prop}{ys:List Value}{xs:List AV}(hb:std.isB xs)(jT:Alike w A ys xs):ys=bc (xs.map Q2K):=by
 have hb:∀x∈xs,∃n:UInt8,x=.val (.int .u8 n.toNat):=hb;refine List.ext_getElem? fun j=>?_
 by_cases hj:j<xs.length
 ·obtain⟨n,hn⟩:=hb _ (List.getElem_mem hj)
  have h1:j<ys.length:=by rw[jT.1];exact hj
  have h2:=jT.2 j _ _ (getElem?_eq_getElem h1) (getElem?_eq_getElem hj);rw[hn]at h2
  have h3:ys[j]=.int .u8 n.toNat:=by
   generalize ys[j]=y at h2;cases h2;rfl
  rw[bc,getElem?_map,getElem?_map,getElem?_eq_getElem hj,hn,getElem?_eq_getElem h1,h3];simp only[map_some,Q2K,Int.toNat_natCast,UInt8.ofNat_toNat]
 ·rw[getElem?_eq_none (by rw[jT.1];omega),getElem?_eq_none (by simp[bc];omega)]
theorem QjG{xs:List AV}(h:std.isR xs):Qp xs=xs:=by
 have h:∀x∈xs,∃n:Int,x=.val (.int .i32 n):=h;induction xs with
 |nil=>rfl
 |cons x r ih =>
  obtain⟨n,rfl⟩:=h x mem_cons_self;rw[Qp,List.flatMap_cons];have:=ih (fun x hx=>h x (mem_cons_of_mem _ hx)) (fun x hx=>h x (mem_cons_of_mem _ hx))
  rw[Qp]at this;rw[this];rfl
theorem Qhs{A:Nat->Nat->Prop}{ys:List Value}{xs:List AV}(hb:std.isR xs)(jT:Alike w A ys xs):ys=(xs.map intOf).map (Value.int .i32):=by
 have hb:∀x∈xs,∃n:Int,x=.val (.int .i32 n):=hb;refine List.ext_getElem? fun j=>?_
 by_cases hj:j<xs.length
 ·obtain⟨n,hn⟩:=hb _ (List.getElem_mem hj)
  have h1:j<ys.length:=by rw[jT.1];exact hj
  have h2:=jT.2 j _ _ (getElem?_eq_getElem h1) (getElem?_eq_getElem hj);rw[hn]at h2
  have h3:ys[j]=.int .i32 n:=by
   generalize ys[j]=y at h2;cases h2;rfl
  rw[getElem?_map,getElem?_map,getElem?_eq_getElem hj,hn,getElem?_eq_getElem h1,h3];rfl
 ·rw[getElem?_eq_none (by rw[jT.1];omega),getElem?_eq_none (by simp;omega)]
theorem Q7y{w:World}{S:Nat->Prop}{A:Option Addr}{n c:Nat}{l:List Int}(h:Rd w S 1 A n c (l.map (Value.int .i32)))(src dst e:TypeId)
  (hs:P.underlying src=some (.slice e)) (he:P.underlying e=some (.int .i32)) (hd:P.underlying dst=some .string) :
  (convert src dst (.slice A n c)).run P w=.ok (.string (runesBytes l)) w:=by
 have hl:n=l.length:=by have:=h.len;simpa using this.symm
 subst hl;rcases A with _|ad
 ·have:=h.nil rfl
  have:=h.le
  have:l=[]:=List.eq_nil_of_length_eq_zero (by omega)
  subst this;exact run_convert_runes_nil w src dst e _ _ hs he hd
 ·have:=run_convert_runes w src dst e ad l.length c l (le_refl _) hs he hd fun j hj=>by
   obtain⟨b,o,ha,_,hc⟩:=h.at_ (by omega)
   injection ha with ha
   subst ha;rw[Addr.add_lit];exact hc j _ (by simp[hj])
  rw[List.take_length]at this;exact this
theorem QcT(hT:TyOk P ty)(hS:QW w g s a)(M:Mem w g s.ob){o:Oper}{src dst:Nat}{x:Operand}(ho:o.op=.convert src dst x){q:Option DP}{z:AV}
  (h:Q2e std ty s o.op=some (q,z)) (hq:∀r,q=some r->r):Yld P w g s a o true z:=by
 rw[ho]at h;simp only[Q2e]at h;have hx:=Qo hS x;refine Q1F (S:=convert src dst (a.eval x)) (fun W=>by simp only[execOp,ho]) ?_
 split at h
 ·rename_i jB
  obtain⟨d,hd,_⟩:=(Q1S hT jB).u;split at h
  ·rename_i k n hb
   rw[hb]at hx;split at h
   ·rename_i k' hk
    have hu:=(Q7F hT hk).int hk;simp only[Option.some.injEq,Prod.mk.injEq]at h;obtain⟨rfl,rfl⟩:=h;refine⟨.int k' (k'.wrap n),fun W _=>?_,.val _ rfl⟩
    rw[hx.valEq];simp[convert,run_underlying hd,run_underlying hu,Conv.intToInt]
   ·split at h
    ·rename_i hk
     have hu:=(Q3N hT hk (by decide)).str hk
     simp only[Option.some.injEq,Prod.mk.injEq]at h;obtain⟨rfl,rfl⟩:=h;refine⟨.string (Utf8.encode n),fun W _=>?_,.val _ rfl⟩
     rw[hx.valEq];simp[convert,run_underlying hd,run_underlying hu,Conv.intToString]
    ·cases h
  ·rename_i b hb
   rw[hb]at hx;split at h
   ·rename_i hk
    have hu:=(Q3N hT hk (by decide)).str hk
    simp only[Option.some.injEq,Prod.mk.injEq]at h;obtain⟨rfl,rfl⟩:=h;refine⟨.string b,fun W _=>?_,.val _ rfl⟩
    rw[hx.valEq];simp[convert,run_underlying hd,run_underlying hu]
   ·cases h
  ·split at h
   ·rename_i xs he
    split at h
    ·rename_i hk
     obtain⟨jR,qC⟩:=hk;have hu:=(Q3N hT jR (by decide)).str jR
     have hs:=(Q9R hT qC).slice qC;split at h
     ·rename_i yp
      have qS:=(Q7F hT yp).int yp;simp only[Option.some.injEq,Prod.mk.injEq]at h;obtain⟨rfl,rfl⟩:=h;have hb:std.isB xs:=hq _ rfl;obtain⟨A,c,ys,h1,hr,jT⟩:=Q40 M hx he;rw[Q9P hb]at jT;have yx:=QgN hb jT;subst yx;refine⟨.string ⟨(xs.map Q2K).toArray⟩,fun W hW=>?_,.val _ rfl⟩
      rw[h1];exact Q2A (hr.below (hW rfl)) src dst _ hs qS hu
     ·rename_i yp
      have qS:=(Q7F hT yp).int yp;simp only[Option.some.injEq,Prod.mk.injEq]at h;obtain⟨rfl,rfl⟩:=h;have hb:std.isR xs:=hq _ rfl;obtain⟨A,c,ys,h1,hr,jT⟩:=Q40 M hx he;rw[QjG hb]at jT;have yx:=Qhs hb jT;subst yx;refine⟨.string (runesBytes (xs.map intOf)),fun W hW=>?_,.val _ rfl⟩
      rw[h1];exact Q7y (hr.below (hW rfl)) src dst _ hs qS hu
     ·cases h
    ·cases h
   ·cases h
 ·cases h
theorem QbV{o:Oper}{fn:Fn}(ho:o.op=.makeFunc fn #[] #[]):Yld P w g s a o false (.val (.func fn #[] #[])):=by
 refine Q1F (S:=Instr.makeFunc fn #[] #[]) (fun W=>by simp[execOp,ho]) ⟨_,fun W _=>rfl,.val _ rfl⟩
theorem Q8x(hS:QW w g s a){o:Oper}{f:Nat}{x:Operand}{id off:Nat}(hx:ev s x=.box id off)(t:Bool)(ho:o.op=.makeFunc (.func f) (match t with|true=>#[x]|false=>#[]) (match t with|true=>#[]|false=>#[x])) :
  Yld P w g s a o false (.clo f id off t):=by
 have h:=Qo hS x;rw[hx]at h;obtain⟨h1,h2⟩:=h;cases t with
 |true=>exact Q1F (S:=Instr.makeFunc (.func f) #[a.eval x] #[]) (fun W=>by simp[execOp,ho]) ⟨Qf1 f true (g.loc id) off,fun W _=>by rw[h1];rfl,rfl,h2⟩
 |false=>exact Q1F (S:=Instr.makeFunc (.func f) #[] #[a.eval x]) (fun W=>by simp[execOp,ho]) ⟨Qf1 f false (g.loc id) off,fun W _=>by rw[h1];rfl,rfl,h2⟩
theorem QcI(hT:TyOk P ty){t off:Nat}(jB:(Q1 t ty).ok=true){vs:Array Value}{cs:List AV}(hc:ARelC w g s.ob vs.toList cs)(hl:off+(if(Q1 t ty).agg then(Q1 t ty).size else 1)<=cs.length) :
  ∃v,(∀W,(part t vs off).run P W=.ok v W)/\ARel w g s.ob v (mk ty t (cs.drop off)):=by
 have ti:=Q1S hT jB;have jC:vs.size=cs.length:=by simpa using hc.1
 cases ha:(Q1 t ty).agg with
 |true =>
  rw[ha]at hl;simp only[if_true]at hl;refine⟨.agg (vs.extract off (off+(Q1 t ty).size)),fun W=>?_,?_⟩
  ·have h1:=ti.isAgg W
   have h2:=ti.size W;rw[ha]at h1;simp[part,h1,h2]
  ·rw[mk,ha]
   simp only[if_true];refine⟨_,rfl,by simp;omega,fun j y u hy hu=>?_⟩
   rw[getElem?_take]at hu;split at hu
   ·rename_i hj
    rw[getElem?_drop]at hu;refine hc.2 (off+j) y u ?_ hu;rw[Array.toList_extract,getElem?_take,if_pos (by omega),getElem?_drop]at hy
    exact hy
   ·cases hu
 |false =>
  rw[ha]at hl;simp only[Bool.false_eq_true,if_false]at hl;have hv:off<vs.size:=by omega
  have zH:off<cs.length:=by omega
  refine⟨vs[off],fun W=>?_,?_⟩
  ·have h1:=ti.isAgg W
   rw[ha]at h1;simp[part,h1,hv]
  ·rw[mk,ha]
   simp only[Bool.false_eq_true,if_false]
   have e:(cs.drop off).headD .dead=cs[off]:=by
    rw[List.headD_eq_head?_getD,List.head?_drop,getElem?_eq_getElem zH];rfl
   rw[e];exact(hc.2 off _ _ (by simp[hv]) (getElem?_eq_getElem zH)).1.to
theorem Qhx(hT:TyOk P ty)(hS:QW w g s a){o:Oper}{T f:Nat}{x:Operand}(ho:o.op=.field T x f){q:Option DP}{z:AV}
  (h:Q2e std ty s o.op=some (q,z)):Yld P w g s a o false z:=by
 rw[ho]at h;simp only[Q2e]at h;have hx:=Qo hS x;refine Q1F (S:=Instr.field T (a.eval x) f) (fun W=>by simp only[execOp,ho]) ?_
 split at h
 ·rename_i off t cs hf hb
  rw[hb]at hx;obtain⟨vs,hv,hc⟩:=hx;by_cases hl:(Q1 t ty).ok=true/\off+(if(Q1 t ty).agg then(Q1 t ty).size else 1)<=cs.length
  ·rw[if_pos hl]at h
   simp only[Option.some.injEq,Prod.mk.injEq]at h;obtain⟨rfl,rfl⟩:=h;obtain⟨fs,fd,h1,h2,h3⟩:=(QeD hT hf).strct' hf;obtain⟨rfl,rfl⟩:off=fd.offset/\t=fd.type:=by simpa using h3
   obtain⟨v,h4,h5⟩:=QcI hT hl.1 hc hl.2;refine⟨v,fun W _=>?_,h5⟩
   rw[hv];simp[Instr.field,run_underlying h1,h2,asAgg,h4]
  ·rw[if_neg hl]at h;cases h
 ·cases h
theorem Qe4(off:Nat):∀(l:List Value)(k:Nat)(c:Array Value),
  ((l.zipIdx k).foldl (fun cs (x:Value×Nat)=>cs.setIfInBounds (off+x.2) x.1) c).toList=c.toList.take (off+k)++(l.take (c.size-(off+k))++c.toList.drop (off+k+l.length)):=by
 intro l;induction l with
 |nil=>intro k c;simp
 |cons v r ih =>
  intro k c;simp only[List.zipIdx_cons,List.foldl_cons];rw[ih (k+1) (c.setIfInBounds (off+k) v)];by_cases h:off+k<c.size
  ·have h1:c.size-(off+k)=(c.size-(off+(k+1)))+1:=by omega
   simp only[Array.size_setIfInBounds,Array.toList_setIfInBounds];rw[h1,List.take_succ_cons,<-add_assoc,List.take_succ_eq_append_getElem (by simpa using h),List.getElem_set_self,List.take_set_of_le (by omega),List.drop_set_of_lt (by omega),append_assoc]
   simp only[List.singleton_append,length_cons,List.cons_append,nil_append];rw[show off+k+1+r.length=off+k+(r.length+1) by omega]
  ·simp only[Array.size_setIfInBounds,Array.toList_setIfInBounds]
   have h1:c.size-(off+k)=0:=by omega
   have h2:c.size-(off+(k+1))=0:=by omega
   rw[h1,h2,List.set_eq_of_length_le (by simp;omega)]
   simp only[List.take_zero,nil_append,length_cons];rw[List.take_of_length_le (by simp;omega),List.take_of_length_le (by simp;omega),List.drop_eq_nil_of_le (by simp;omega),List.drop_eq_nil_of_le (by simp;omega)]
theorem Q7A{ob:List Ob}{c:List Value}{cs:List AV}(h:ARelC w g ob c cs){l:List Value}{us:List AV}(h':ARelC w g ob l us){off:Nat}(hl:off+us.length<=cs.length) :
  ARelC w g ob (c.take off++(l++c.drop (off+l.length))) (setCells cs off us):=by
 have e1:=h.1;have e2:=h'.1;refine⟨by simp[setCells];omega,fun j y u hy hu=>?_⟩
 unfold setCells at hu;rw[append_assoc]at hu;by_cases h1:j<off
 ·rw[getElem?_append_left (by simp;omega),getElem?_take,if_pos h1]at hy hu
  exact h.2 j y u hy hu
 ·rw[List.getElem?_append_right (by simp;omega)]at hy hu
  have e3:(c.take off).length=off:=by rw[length_take];omega
  have e4:(cs.take off).length=off:=by rw[length_take];omega
  rw[e3]at hy;rw[e4]at hu;by_cases h2:j-off<l.length
  ·rw[getElem?_append_left h2]at hy
   rw[getElem?_append_left (by omega)]at hu
   exact h'.2 _ y u hy hu
  ·rw[List.getElem?_append_right (by omega),getElem?_drop]at hy
   rw[List.getElem?_append_right (by omega),getElem?_drop,<-e2]at hu
   exact h.2 _ y u hy hu
theorem Qac{ob:List Ob}{flds:List (Nat×Nat)}{place:Nat->Option (Nat×Nat)}(zZ:∀(i off t:Nat),flds[i]?=some (off,t)->(Q1 t ty).ok=true->place i=some (off,(Q1 t ty).size)) :
  ∀(parts:List (Nat×Value×AV)) (c:Array Value) (cs cs':List AV),(∀p∈parts,ARel w g ob p.2.1 p.2.2)->ARelC w g ob c.toList cs->Qb9 ty flds cs (parts.map fun p=>(p.1,p.2.2))=some cs' ->
   ∃c',Instr.fill place c (parts.map fun p=>(p.1,p.2.1))=some c'/\ARelC w g ob c'.toList cs'
 | [],c,cs,cs',_,hc,h=>by
  obtain rfl:cs=cs':=by simpa[Qb9]using h
  exact⟨c,rfl,hc⟩
 |(i,v,x)::r,c,cs,cs',hp,hc,h=>by
  simp only[map_cons,Qb9]at h;split at h
  ·rename_i off t hf
   split at h
   ·rename_i hl
    obtain⟨h1,h2,h3,h4⟩:=hl;have hv:=(hp _ mem_cons_self).cells h1;have jC:v.cells.size=x.cells.length:=by simpa using hv.1
    have qY:c.size=cs.length:=by simpa using hc.1
    have hn:=Q7A hc hv h4;have vm:=Qe4 off v.cells.toList 0 c;have e1:(v.cells.toList.take (c.size-(off+0)))=v.cells.toList:=List.take_of_length_le (by simp;omega)
    rw[e1,add_zero]at vm;rw[<-vm]at hn;obtain⟨c',h5,h6⟩:=Qac zZ r _ _ cs' (fun p hm=>hp p (mem_cons_of_mem _ hm)) hn h
    refine⟨c',?_,h6⟩;simp only[map_cons,Instr.fill,zZ i off t hf h2];rw[if_neg]
    ·rw[<-h5]
     congr 1
     rw[<-Array.foldl_toList,Array.toList_zipIdx]
    ·simp only[Bool.or_eq_true,decide_eq_true_eq,bne_iff_ne,ne_eq,not_or]
     omega
   ·cases h
  ·cases h
theorem Q7f{ob:List Ob}{zs:List Value}(h:zs.all (·.oneCell')=true):ARelC w g ob zs (zs.map .val):=by
 refine⟨by simp,fun j y u hy hu=>?_⟩
 rw[getElem?_map,hy]at hu;obtain rfl:AV.val y=u:=by simpa using hu
 have h1:=List.all_eq_true.1 h y (List.mem_of_getElem? hy);exact⟨PRel.val y h1,h1⟩
theorem Qjk(hT:TyOk P ty)(hS:QW w g s a){o:Oper}{T:Nat}{x i:Operand}(ho:o.op=.index T x i){cs:List AV}(hx:ev s x=.agg cs){kn:IntKind}{k:Int}(hi:ev s i=.val (.int kn k))
  (h0:100<=(Q1 T ty).kd) (jB:(Q1 (Q1 T ty).elem ty).ok=true) (h1:0<=k) (h2:k<((Q1 T ty).kd-100:Nat))
  (hl:k.toNat * (Q1 (Q1 T ty).elem ty).size+(if(Q1 (Q1 T ty).elem ty).agg then(Q1 (Q1 T ty).elem ty).size else 1)<=cs.length) :
  Yld P w g s a o false (mk ty (Q1 T ty).elem (cs.drop (k.toNat * (Q1 (Q1 T ty).elem ty).size))):=by
 have jn:=Qo hS x;have z4:=Qo hS i;rw[hx]at jn;rw[hi]at z4;obtain⟨vs,hv,hc⟩:=jn;have hu:=(Q3N hT (k:=(Q1 T ty).kd) rfl (by omega)).arr h0
 obtain⟨v,h4,h5⟩:=QcI hT jB hc hl;refine Q1F (S:=Instr.index T (a.eval x) (a.eval i)) (fun W=>by simp only[execOp,ho]) ⟨v,fun W _=>?_,h5⟩
 rw[hv,z4.valEq];have hs:=(Q1S hT jB).size W;have h6:((Q1 T ty).kd-100:Nat)=(Q1 T ty).kd-100:=rfl;simp[Instr.index,asIntOf,run_underlying hu,h1,h2,hs,h4]
theorem QhN(hT:TyOk P ty)(hS:QW w g s a){o:Oper}{T:Nat}{parts:Array (Nat×Operand)}(ho:o.op=.build T parts){q:Option DP}{z:AV}
  (h:Q2e std ty s o.op=some (q,z)):Yld P w g s a o false z:=by
 rw[ho]at h;simp only[Q2e]at h;split at h
 ·rename_i jB
  obtain⟨cs',h1,h2⟩:=map_eq_some_iff.1 h;simp only[Prod.mk.injEq]at h2;obtain⟨rfl,rfl⟩:=h2;have ti:=Q1S hT jB.1;obtain⟨fs,hu,qn⟩:=ti.strct jB.2;obtain⟨i0,z0,hi,j6,gk,hz,gV,_⟩:=ti.i
  have jw:∃places,fs.toList.mapM (fun f=>(P.info? f.type).map fun i=>(f.offset,i.size))=some places/\∀(i off t:Nat),(Q1 T ty).flds[i]?=some (off,t)->(Q1 t ty).ok=true->places[i]?=some (off,(Q1 t ty).size):=by
   have xT:=ti.fi;rw[qn]at xT ⊢;clear qn hu h1;generalize fs.toList=l at xT ⊢;induction l with
   |nil=>exact⟨[],rfl,fun i off t h=>by simp at h⟩
   |cons f r ih =>
    simp only[map_cons,List.all_cons,Bool.and_eq_true]at xT;obtain⟨places,h3,h4⟩:=ih xT.2;obtain⟨fi,xU⟩:=Option.isSome_iff_exists.1 xT.1;refine⟨(f.offset,fi.size)::places,by simp[h3,xU],fun i off t h5 h6=>?_⟩
    cases i with
    |zero =>
     obtain⟨rfl,rfl⟩:f.offset=off/\f.type=t:=by simpa using h5
     obtain⟨i1,_,h7,h8,_⟩:=(Q1S hT h6).i;rw[xU]at h7;cases h7;simp[h8]
    |succ i=>simpa using h4 i off t (by simpa using h5) h6
  obtain⟨places,xH,kJ⟩:=jw;have jZ:ARelC w g s.ob z0.cells.toList ((Q1 T ty).zero.map .val):=by rw[gV];exact Q7f ti.zone
  obtain⟨c',h5,h6⟩:=Qac (w:=w) (g:=g) (ob:=s.ob) (place:=fun i=>places.toArray[i]?) (fun i off t h3 h4=>by simpa using kJ i off t h3 h4)
   (parts.toList.map fun p=>(p.1,a.eval p.2,ev s p.2)) z0.cells _ cs' (fun p hm=>by obtain⟨q,_,rfl⟩:=mem_map.1 hm;exact Qo hS q.2) jZ (by simpa[map_map,Function.comp_def]using h1)
  refine Q1F (S:=Instr.build T (parts.map fun(i,x)=>(i,a.eval x))) (fun W=>by simp only[execOp,ho]) ⟨.agg c',fun W _=>run_build W T _ c' ?_,c',rfl,h6⟩
  unfold Program.built;rw[hi,hu];simp only[hz,xH];rw[<-h5];congr 1
  simp[map_map,Function.comp_def]
 split at h
 ·rename_i _ jB
  obtain⟨cs',h1,h2⟩:=map_eq_some_iff.1 h;simp only[Prod.mk.injEq]at h2;obtain⟨rfl,rfl⟩:=h2;have ti:=Q1S hT jB.1;have hu:=ti.arr jB.2.1;obtain⟨i0,z0,hi,j6,gk,hz,gV,_⟩:=ti.i;have jZ:ARelC w g s.ob z0.cells.toList ((Q1 T ty).zero.map .val):=by rw[gV];exact Q7f ti.zone
  cases yy:P.info? (Q1 T ty).elem with
  |none =>
   obtain⟨ie,_,xV,_⟩:=(Q1S hT jB.2.2).i;rw[yy]at xV;cases xV
  |some ie =>
   obtain⟨c',h5,h6⟩:=Qac (w:=w) (g:=g) (ob:=s.ob) (ty:=ty) (flds:=(List.range ((Q1 T ty).kd-100)).map fun i=>(i * (Q1 (Q1 T ty).elem ty).size,(Q1 T ty).elem)) (place:=fun i=>some (i * ie.size,ie.size)) (fun i off t h3 h4=>by
     rw[getElem?_map,map_eq_some_iff]at h3;obtain⟨j,h7,h8⟩:=h3;obtain⟨rfl,rfl⟩:j * (Q1 (Q1 T ty).elem ty).size=off/\(Q1 T ty).elem=t:=by simpa using h8
     obtain⟨i1,_,h9,qX,_⟩:=(Q1S hT h4).i;rw[yy]at h9;cases h9
     have:j=i:=by
      rw[List.getElem?_range (by have:=Q4 h7;simpa using this)]at h7
      simpa using h7.symm
     rw[this,qX])
    (parts.toList.map fun p=>(p.1,a.eval p.2,ev s p.2)) z0.cells _ cs' (fun p hm=>by obtain⟨q,_,rfl⟩:=mem_map.1 hm;exact Qo hS q.2) jZ (by simpa[map_map,Function.comp_def]using h1)
   refine Q1F (S:=Instr.build T (parts.map fun(i,x)=>(i,a.eval x))) (fun W=>by simp only[execOp,ho]) ⟨.agg c',fun W _=>run_build W T _ c' ?_,c',rfl,h6⟩
   unfold Program.built;rw[hi,hu];simp only[hz,yy];rw[<-h5];congr 1
   simp[map_map,Function.comp_def]
 ·cases h
end
section
variable {P:Program}{ty:Tys}{w:World}{g:Gh}{s:St}{a:Act}
theorem Qc3{T:Nat}(hu:P.underlying T=some .string)(b:ByteArray)(lo hi:Option Value){l h:Nat}
  (yl:lo=none/\l=0\/∃k,lo=some (.int k (l:Int))) (yM:hi=none/\h=b.size\/∃k,hi=some (.int k (h:Int))) (h1:l<=h) (h2:h<=b.size) (W:World) :
  (Instr.sliceAt T (.string b) lo hi none).run P W=.ok (.string (b.extract l h)) W:=by
 have e1:∀(k:IntKind),(Instr.sliceBound (.int k (h:Int)) b.size .sliceAlen).run P W=.ok h W:=fun k=>by
  rw[Q6w (by omega) (by omega)];simp
 have e2:∀(k:IntKind),(Instr.sliceBound (.int k (l:Int)) h .sliceB).run P W=.ok l W:=fun k=>by
  rw[Q6w (by omega) (by omega)];simp
 rcases yl with ⟨rfl,rfl⟩|⟨k,rfl⟩<;>rcases yM with ⟨rfl,rfl⟩|⟨k',rfl⟩ <;>
  simp[Instr.sliceAt,Instr.slice,run_underlying hu,Instr.sliceBounds,e1,e2]
theorem Q3U{o:Oper}{T:Nat}{x:Operand}{lo hi:Option Operand}(ho:o.op=.slice T x lo hi none){b:ByteArray}(hu:P.underlying T=some .string)
  (hx:a.eval x=.string b) {l h:Int} (yl:lo.map a.eval=none/\l=0\/∃k,lo.map a.eval=some (.int k l)) (yM:hi.map a.eval=none/\h=b.size\/∃k,hi.map a.eval=some (.int k h))
  (jB:0<=l/\l<=h/\h<=b.size):Yld P w g s a o false (.val (.string (std.cutS b l h))):=by
 obtain⟨h0,h1,h2⟩:=jB;obtain⟨l,rfl⟩:∃l':Nat,l=l':=⟨l.toNat,by omega⟩
 obtain⟨h,rfl⟩:∃h':Nat,h=h':=⟨h.toNat,by omega⟩
 have gS:lo.map a.eval=none/\l=0\/∃k,lo.map a.eval=some (.int k (l:Int)):=yl.imp (fun⟨a,b⟩=>⟨a,by omega⟩) id
 have gU:hi.map a.eval=none/\h=b.size\/∃k,hi.map a.eval=some (.int k (h:Int)):=yM.imp (fun⟨a,b⟩=>⟨a,by omega⟩) id
 refine Q1F (S:=Instr.sliceAt T (a.eval x) (lo.map a.eval) (hi.map a.eval) none) (fun W=>by simp only[execOp,ho];rfl) ⟨_,fun W _=>?_,.val _ rfl⟩
 rw[hx,Qc3 hu b _ _ gS gU (by omega) (by omega)]
 simp[std]
theorem Q8H(hS:QW w g s a){lo:Option Operand}{k:IntKind}{l:Int}(h:lo.map (ev s)=some (.val (.int k l))):lo.map a.eval=some (.int k l):=by
 cases lo with
 |none=>cases h
 |some x =>
  have h:ev s x=.val (.int k l):=by simpa using h
  have hx:=Qo hS x;rw[h]at hx;simp[hx.valEq]
theorem Q8L{lo:Option Operand}(h:lo.map (ev s)=none):lo.map a.eval=none:=by
 cases lo with
 |none=>rfl
 |some x=>cases h
theorem Qh7(hT:TyOk P ty)(hS:QW w g s a)(M:Mem w g s.ob){o:Oper}{T:Nat}{x:Operand}{lo hi:Option Operand}(ho:o.op=.slice T x lo hi none){q:Option DP}{z:AV}
  (h:Q2e std ty s o.op=some (q,z)) (hq:∀r,q=some r->r):Yld P w g s a o false z:=by
 have vn:=ho;rw[ho]at h;simp only[Q2e]at h;have hx:=Qo hS x;split at h
 ·rename_i b hb
  rw[hb]at hx;split at h
  ·rename_i hk
   have hu:=(Q3N hT hk (by decide)).str hk
   split at h<;>try (cases h;done)
   ·rename_i h1 h2
    simp only[Option.some.injEq,Prod.mk.injEq]at h;obtain⟨rfl,rfl⟩:=h;have:=Q3U (w:=w) (g:=g) (s:=s) (l:=0) (h:=b.size) vn hu hx.valEq (.inl ⟨Q8L h1,rfl⟩) (.inl ⟨Q8L h2,rfl⟩) ⟨by omega,by omega,by omega⟩
    have e:std.cutS b 0 b.size=b:=by simp[std]
    rw[e]at this;exact this
   ·rename_i h1 h2
    simp only[Option.some.injEq,Prod.mk.injEq]at h;obtain⟨rfl,rfl⟩:=h;exact Q3U vn hu hx.valEq (.inr ⟨_,Q8H hS h1⟩) (.inl ⟨Q8L h2,rfl⟩) (hq _ rfl)
   ·rename_i h1 h2
    simp only[Option.some.injEq,Prod.mk.injEq]at h;obtain⟨rfl,rfl⟩:=h;exact Q3U vn hu hx.valEq (.inl ⟨Q8L h1,rfl⟩) (.inr ⟨_,Q8H hS h2⟩) (hq _ rfl)
   ·rename_i h1 h2
    simp only[Option.some.injEq,Prod.mk.injEq]at h;obtain⟨rfl,rfl⟩:=h;exact Q3U vn hu hx.valEq (.inr ⟨_,Q8H hS h1⟩) (.inr ⟨_,Q8H hS h2⟩) (hq _ rfl)
  ·cases h
 ·rename_i sz xs hb
  rw[hb]at hx;split at h
  ·rename_i j5
   split at h<;>try (cases h;done)
   ·rename_i h1 h2
    simp only[Option.some.injEq,Prod.mk.injEq]at h;obtain⟨rfl,rfl⟩:=h;have:=Q3u (l:=0) (h:=xs.length) hT vn j5 hx (.inl ⟨Q8L h1,rfl⟩) (.inl ⟨Q8L h2,rfl⟩) ⟨by omega,by omega,by omega⟩
    have e:std.cut xs 0 xs.length=xs:=by simp[std]
    rw[e]at this;exact this
   ·rename_i h1 h2
    simp only[Option.some.injEq,Prod.mk.injEq]at h;obtain⟨rfl,rfl⟩:=h;exact Q3u hT vn j5 hx (.inr ⟨_,Q8H hS h1⟩) (.inl ⟨Q8L h2,rfl⟩) (hq _ rfl)
   ·rename_i h1 h2
    simp only[Option.some.injEq,Prod.mk.injEq]at h;obtain⟨rfl,rfl⟩:=h;exact Q3u hT vn j5 hx (.inl ⟨Q8L h1,rfl⟩) (.inr ⟨_,Q8H hS h2⟩) (hq _ rfl)
   ·rename_i h1 h2
    simp only[Option.some.injEq,Prod.mk.injEq]at h;obtain⟨rfl,rfl⟩:=h;exact Q3u hT vn j5 hx (.inr ⟨_,Q8H hS h1⟩) (.inr ⟨_,Q8H hS h2⟩) (hq _ rfl)
  ·cases h
 ·rename_i id ep hb
  rw[hb]at hx;obtain⟨_,et,sz,fz,e,xs,h1,h2,h3⟩:=hx;simp only[h1]at h;split at h
  ·rename_i j5
   split at h<;>try (cases h;done)
   rename_i k n h4 h5;simp only[Option.some.injEq,Prod.mk.injEq]at h;obtain⟨rfl,rfl⟩:=h;cases lo with
   |some _=>cases h4
   |none =>
    cases hi with
    |none=>cases h5
    |some y =>
     have hy:ev s y=.val (.int k n):=by simpa using h5
     have vA:=Qo hS y;rw[hy]at vA;have gD:0<=(0:Int)/\0<=n/\n<=(xs.length:Int):=hq _ rfl;exact Qat hT vn j5.2 h1 j5.1 (h3 j5.1) vA.valEq gD.2
  ·cases h
 ·cases h
theorem Q6R(hT:TyOk P ty)(hS:QW w g s a)(M:Mem w g s.ob){o:Oper}{q:Option DP}{z:AV}
  (h:Q2e std ty s o.op=some (q,z)) (hq:∀r,q=some r->r):Yld P w g s a o (Q8g o.op) z:=by
 cases ho:o.op with
 |move x =>
  rw[ho]at h;obtain⟨rfl,rfl⟩:none=q/\evk s x=z:=by simpa[Q2e]using h
  exact QdW hS (.inl ho)
 |assign x =>
  rw[ho]at h;obtain⟨rfl,rfl⟩:none=q/\evk s x=z:=by simpa[Q2e]using h
  exact QdW hS (.inr ho)
 |pick c x y =>
  rw[ho]at h;simp only[Q2e]at h;split at h
  ·rename_i t hc
   simp only[Option.some.injEq,Prod.mk.injEq]at h;obtain⟨rfl,rfl⟩:=h;have:=QhX (P:=P) hS ho hc
   cases t<;>exact this
  ·cases h
 |build T parts=>exact QhN hT hS ho h
 |load T x =>
  rw[ho]at h;simp only[Q2e]at h;have jn:=Qo hS x;split at h
  ·rename_i cs he
   rw[he]at jn;exact Qfx hT ho (Qh1 jn) h hq
  ·rename_i id ep i off he
   rw[he]at jn;split at h
   ·rename_i e xs jK
    split at h
    ·rename_i qS
     exact Qfx hT ho (Qet M jn jK qS) h hq
    ·cases h
   ·cases h
  split at h
  ·rename_i cs hcs
   by_cases hl:(Q1 T ty).ok=true/\(if(Q1 T ty).agg then(Q1 T ty).size else 1)<=cs.length
   ·rw[if_pos hl]at h
    simp only[Option.some.injEq,Prod.mk.injEq]at h;obtain⟨rfl,rfl⟩:=h;exact Qjc hT hS M ho hcs hl.1 hl.2
   ·rw[if_neg hl]at h;cases h
  ·cases h
 |nilCheck x =>
  rw[ho]at h;simp only[Q2e]at h;have hx:=Qo hS x;split at h
  ·rename_i cs he
   obtain⟨rfl,rfl⟩:none=q/\AV.ref cs=z:=by simpa using h
   rw[he]at hx;obtain⟨b,u,hv⟩:=Q3A hx (.inl ⟨_,rfl⟩);have:=Q32 hS ho hv (.inl ⟨_,rfl⟩) (P:=P)
   rw[he]at this;exact this
  ·rename_i id of he
   obtain⟨rfl,rfl⟩:none=q/\AV.box id of=z:=by simpa using h
   rw[he]at hx;obtain⟨b,u,hv⟩:=Q3A hx (.inr ⟨_,_,rfl⟩);have:=Q32 hS ho hv (.inl ⟨_,rfl⟩) (P:=P)
   rw[he]at this;exact this
  ·rename_i y he
   simp only[Option.some.injEq,Prod.mk.injEq]at h;obtain⟨rfl,rfl⟩:=h;exact Qcf hS ho he (hq _ rfl)
  ·rename_i id ep i of he
   rw[he]at hx;split at h
   ·rename_i e xs jK
    split at h
    ·rename_i hk
     obtain⟨rfl,rfl⟩:none=q/\AV.rptr id ep i of=z:=by simpa using h
     obtain⟨b,u,hv⟩:=Qbk hx jK hk;have:=Q32 hS ho hv (.inl ⟨_,rfl⟩) (P:=P)
     rw[he]at this;exact this
    ·cases h
   ·cases h
  ·rename_i f b c he
   obtain⟨rfl,rfl⟩:none=q/\AV.val (.func (.func f) b c)=z:=by simpa using h
   rw[he]at hx;have:=Q32 hS ho hx.valEq (.inr ⟨_,_,_,rfl⟩) (P:=P)
   rw[he]at this;exact this
  ·rename_i f id o1 t he
   obtain⟨rfl,rfl⟩:none=q/\AV.clo f id o1 t=z:=by simpa using h
   rw[he]at hx;have hv:∃b c,a.eval x=.func (.func f) b c:=by rw[hx.1];cases t<;>exact⟨_,_,rfl⟩
   obtain⟨b,c,hv⟩:=hv;have:=Q32 hS ho hv (.inr ⟨_,_,_,rfl⟩) (P:=P)
   rw[he]at this;exact this
  ·cases h
 |binOp op T x y T'=>exact QhI hT hS M ho h hq
 |unOp op T x=>exact Qk5 hS ho h hq
 |convert src dst x=>exact QcT hT hS M ho h hq
 |makeFunc fn fi ca =>
  rw[ho]at h;simp only[Q2e]at h;split at h
  ·rename_i he
   obtain⟨rfl,rfl⟩:fi=#[]/\ca=#[]:=by simpa using he
   obtain⟨rfl,rfl⟩:none=q/\AV.val (.func fn #[] #[])=z:=by simpa using h
   exact QbV ho
  ·split at h
   ·rename_i f y h1 h2
    split at h
    ·rename_i id o1 hy
     obtain⟨rfl,rfl⟩:none=q/\AV.clo f id o1 true=z:=by simpa using h
     have e1:fi=#[y]:=Array.toList_inj.1 (by rw[h1])
     have e2:ca=#[]:=Array.toList_inj.1 (by rw[h2])
     rw[e1,e2]at ho;exact Q8x hS hy true ho
    ·cases h
   ·rename_i f y h1 h2
    split at h
    ·rename_i id o1 hy
     obtain⟨rfl,rfl⟩:none=q/\AV.clo f id o1 false=z:=by simpa using h
     have e1:fi=#[]:=Array.toList_inj.1 (by rw[h1])
     have e2:ca=#[y]:=Array.toList_inj.1 (by rw[h2])
     rw[e1,e2]at ho;exact Q8x hS hy false ho
    ·cases h
   ·cases h
 |fieldAddr T x f =>
  rw[ho]at h;simp only[Q2e]at h;have hx:=Qo hS x;split at h
  ·rename_i off t hf
   split at h
   ·rename_i cs he
    rw[he]at hx;split at h
    ·rename_i vm
     obtain⟨rfl,rfl⟩:none=q/\AV.ref (std.drp cs off)=z:=by simpa using h
     refine Q4B hT hS ho hf vm (fun b u hr=>?_) (Q3A hx (.inl ⟨_,rfl⟩))
     rw[he]at hr;exact Qft hr off
    ·cases h
   ·rename_i id of he
    rw[he]at hx;split at h
    ·rename_i vm
     obtain⟨rfl,rfl⟩:none=q/\AV.box id (of+off)=z:=by simpa using h
     refine Q4B hT hS ho hf vm (fun b u hr=>?_) (Q3A hx (.inr ⟨_,_,rfl⟩))
     rw[he]at hr;obtain⟨h1,h2⟩:=hr;simp only[Value.pointer.injEq,Option.some.injEq,Addr.mk.injEq,and_true]at h1;exact⟨by rw[h1.1,h1.2],h2⟩
    ·cases h
   ·rename_i id ep i of he
    rw[he]at hx;split at h
    ·rename_i e xs jK
     split at h
     ·rename_i hk
      obtain⟨rfl,rfl⟩:none=q/\AV.rptr id ep i (of+off)=z:=by simpa using h
      refine Q4B hT hS ho hf hk.2 (fun b u hr=>?_) (Qbk hx jK hk.1)
      rw[he]at hr;exact Qkt hr jK hk.1 off
     ·cases h
    ·cases h
   ·cases h
  ·cases h
 |field T x f=>exact Qhx hT hS ho h
 |indexAddr T x i=>exact QaK hT hS M ho h hq
 |index T x i =>
  rw[ho]at h;simp only[Q2e]at h;split at h
  ·rename_i cs kn k h1 h2
   by_cases hk:100<=(Q1 T ty).kd/\(Q1 (Q1 T ty).elem ty).ok=true/\0<=k/\k<((Q1 T ty).kd-100:Nat)/\k.toNat * (Q1 (Q1 T ty).elem ty).size+(if(Q1 (Q1 T ty).elem ty).agg then(Q1 (Q1 T ty).elem ty).size else 1)<=cs.length
   ·rw[if_pos hk]at h
    simp only[Option.some.injEq,Prod.mk.injEq]at h;obtain⟨rfl,rfl⟩:=h;exact Qjk hT hS ho h1 h2 hk.1 hk.2.1 hk.2.2.1 hk.2.2.2.1 hk.2.2.2.2
   ·rw[if_neg hk]at h;cases h
  ·rename_i b k n h1 h2
   split at h
   ·rename_i hk
    simp only[Option.some.injEq,Prod.mk.injEq]at h;obtain⟨rfl,rfl⟩:=h;obtain⟨h3,h4⟩:0<=n/\n<(b.size:Int):=hq _ rfl;exact Qhr hT hS ho h1 h2 hk h3 h4
   ·cases h
  ·cases h
 |slice T x lo hi mx =>
  cases mx with
  |none=>exact Qh7 hT hS M ho h hq
  |some m=>rw[ho]at h;simp[Q2e]at h
 |extract t i =>
  rw[ho]at h;simp only[Q2e]at h;split at h
  ·rename_i vs hv
   obtain⟨x,h1,h2⟩:=map_eq_some_iff.1 h;obtain⟨rfl,rfl⟩:none=q/\x=z:=by simpa using h2
   exact Qe8 hS ho hv h1
  ·cases h
 |call c =>
  obtain⟨callee,args,r⟩:=c;cases callee with
  |builtin b =>
   cases b with
   |len=>exact Ql5 hT hS M ho h
   |min=>exact Qlr hS ho h
   |max=>exact QkK hS ho h
   |_=>rw[ho]at h;simp[Q2e]at h
  |_=>rw[ho]at h;simp[Q2e]at h
 |_=>rw[ho]at h;simp[Q2e]at h
end
section
variable {w w':World}{g g':Gh}{ob ob':List Ob}
theorem Q5D(w:World)(o:Obj):(w.alloc o).heap[w.heap.size]?=some o:=heap_alloc_new w o
theorem Q3G{w:World}{o:Obj}{b:Nat}(h:b<w.heap.size):(w.alloc o).heap[b]?=w.heap[b]?:=Below.heap_alloc w o b h
theorem QcC{w:World}{o:Obj}{b k:Nat}(h:b<w.heap.size):(w.alloc o).cell? ⟨b,k,none⟩=w.cell? ⟨b,k,none⟩:=World.cell?_of_block (Q3G h)
def Gh.new(g:Gh)(w:World)(ob:List Ob):Gh:=⟨g.A,fun b=>if b=w.heap.size then some ob.length else g.G b,fun i=>if i=ob.length then w.heap.size else g.loc i,g.sub⟩
theorem Q1Z{α:Type}{l:List α}{x:α}{i:Nat}(h:i<l.length):(l++[x])[i]?=l[i]?:=getElem?_append_left h
theorem Q2p{α:Type}{l:List α}{x:α}:(l++[x])[l.length]?=some x:=by simp
theorem Ext.new(M:Mem w g ob)(o:Obj)(x:Ob):Ext w g ob (w.alloc o) (g.new w ob) (ob++[x]):=by
 have old:∀{b:Nat}{id:Nat},g.G b=some id->b≠w.heap.size:=fun h=>by have:=(M.own _ _ h).1;omega
 refine⟨fun b o h=>⟨h,QcC (M.imm b o h).1⟩,fun id h=>?_,fun id h=>?_,fun id h=>?_,fun id et sz fz e xs h=>⟨fz,e,xs,?_,le_refl _,fun _=>.inl ⟨rfl,fun b hG=>⟨?_,Q3G (M.own _ _ hG).1⟩⟩⟩,fun _ _ _ _=>⟨rfl,fun _ _ h=>h⟩⟩
 ·simp[Gh.new,ne_of_lt h]
 ·rw[Q1Z (Q2O h)];exact h
 ·rw[Q1Z (Q3X h)];exact h
 ·rw[Q1Z (Q4 h)];exact h
 ·simp[Gh.new,old hG,hG]
theorem Mem.new(M:Mem w g ob)(o:Obj)(x:Ob)
  (nS:∀cs,x=.box cs->∃cur T,o=.cells cur T (0,0)/\ARelC w g ob cur.toList cs) (nT:∀cs,x≠.fbox cs) (hit:∀y,x=.iter y->ItRel w g.A g.loc ob.length y (some o))
  (jY:∀et sz fz e xs,x=.row et sz fz e xs->0<sz/\∀y∈xs,y.cells.length=sz):Mem (w.alloc o) (g.new w ob) (ob++[x]):=by
 have E:=Ext.new M o x;have old:∀{b:Nat}{id:Nat},g.G b=some id->b≠w.heap.size:=fun h=>by have:=(M.own _ _ h).1;omega
 have j6:(w.alloc o).heap.size=w.heap.size+1:=by simp
 refine⟨fun id cs h=>?_,fun id cs h j u hj=>?_,fun id y h=>?_,fun b id h=>?_,fun b k h=>?_,fun id et sz fz e xs h=>?_,fun b hs=>?_,fun b b' id h1 h2 hs jf=>?_⟩
 ·by_cases hl:id<ob.length
  ·rw[Q1Z hl]at h
   obtain⟨h1,cur,T,h2,h3⟩:=M.box id cs h;have h4:=(M.own _ _ h1).1;have e1:(g.new w ob).loc id=g.loc id:=by simp[Gh.new,ne_of_lt hl]
   rw[e1];exact⟨by simp[Gh.new,ne_of_lt h4,h1],cur,T,by rw[Q3G h4];exact h2,h3.ext E⟩
  ·have hid:id=ob.length:=by have:=Q4 h;simp at this;omega
   subst hid;rw[Q2p]at h;obtain⟨cur,T,rfl,h2⟩:=nS cs (by simpa using h)
   have e1:(g.new w ob).loc ob.length=w.heap.size:=by simp[Gh.new]
   rw[e1];exact⟨by simp[Gh.new],cur,T,Q5D w _,h2.ext E⟩
 ·by_cases hl:id<ob.length
  ·rw[Q1Z hl]at h
   obtain⟨h1,y,h2,h3⟩:=M.fbox id cs h j u hj;have e1:(g.new w ob).loc id=g.loc id:=by simp[Gh.new,ne_of_lt hl]
   rw[e1];exact⟨h1,y,by rw[QcC (M.imm _ _ h1).1];exact h2,h3.keep E.A⟩
  ·have hid:id=ob.length:=by have:=Q4 h;simp at this;omega
   subst hid;rw[Q2p]at h;exact absurd (by simpa using h) (nT cs)
 ·by_cases hl:id<ob.length
  ·rw[Q1Z hl]at h
   obtain⟨h1,h2⟩:=M.iter id y h;have h4:=(M.own _ _ h1).1;have e1:(g.new w ob).loc id=g.loc id:=by simp[Gh.new,ne_of_lt hl]
   rw[e1];exact⟨by simp[Gh.new,ne_of_lt h4,h1],h2.at E.A E.loc (by simp) (Q3G h4)⟩
  ·have hid:id=ob.length:=by have:=Q4 h;simp at this;omega
   subst hid;rw[Q2p]at h;have hI:=hit y (by simpa using h)
   have e1:(g.new w ob).loc ob.length=w.heap.size:=by simp[Gh.new]
   rw[e1];exact⟨by simp[Gh.new],hI.at E.A E.loc (by simp) (Q5D w _)⟩
 ·simp only[Gh.new]at h
  split at h
  ·obtain rfl:ob.length=id:=by simpa using h
   rename_i hb;rw[hb,j6];exact⟨by omega,by simp⟩
  ·have:=M.own b id h
   rw[j6];exact⟨by omega,by simp;omega⟩
 ·obtain⟨h1,h2⟩:=M.imm b k h
  refine⟨by rw[j6];omega,fun id hG hs=>?_⟩
  simp only[Gh.new,ne_of_lt h1,if_false]at hG;obtain⟨et,sz,e,xs,h3,h4⟩:=h2 id hG hs;exact⟨et,sz,e,xs,by rw[Q1Z (Q4 h3)];exact h3,h4⟩
 ·by_cases hl:id<ob.length
  ·rw[Q1Z hl]at h;exact M.roww id et sz fz e xs h
  ·have hid:id=ob.length:=by have:=Q4 h;simp at this;omega
   subst hid;rw[Q2p]at h;exact jY et sz fz e xs (by simpa using h)
 ·obtain⟨id,et,sz,fz,e,xs,h1,h2⟩:=M.nsub b hs
  exact⟨id,et,sz,fz,e,xs,by simp[Gh.new,old h1,h1],by rw[Q1Z (Q4 h2)];exact h2⟩
 ·simp only[Gh.new]at h1 h2
  split at h1<;>split at h2
  ·rename_i e1 e2;exact e1.trans e2.symm
  ·cases h1;exact absurd (M.own _ _ h2).2 (Nat.lt_irrefl _)
  ·cases h2;exact absurd (M.own _ _ h1).2 (Nat.lt_irrefl _)
  ·exact M.uniq b b' id h1 h2 hs jf
def Gh.imm(g:Gh)(w w':World):Gh:=⟨fun b o=>g.A b o\/(w.heap.size<=b/\b<w'.heap.size),g.G,g.loc,g.sub⟩
theorem Ext.immNew(M:Mem w g ob)(hb:Below w.heap.size w w'):Ext w g ob w' (g.imm w w') ob :=
 ⟨fun b o h=>⟨.inl h,World.cell?_of_block (w:=w) (hb.block b (M.imm b o h).1)⟩,fun _ _=>rfl,fun _ h=>h,fun _ h=>h,
  fun _ _ _ fz e xs h=>⟨fz,e,xs,h,le_refl _,fun _=>.inl ⟨rfl,fun b hG=>⟨hG,hb.block b (M.own b _ hG).1⟩⟩⟩,
  fun b id hG _=>⟨rfl,fun _ o h=>h.resolve_right fun h2=>by have:=(M.own b id hG).1;omega⟩⟩
theorem Mem.immNew(M:Mem w g ob)(hb:Below w.heap.size w w'):Mem w' (g.imm w w') ob:=by
 have E:=Ext.immNew M hb;refine⟨fun id cs h=>?_,fun id cs h j u hj=>?_,fun id y h=>?_,fun b id h=>⟨lt_of_lt_of_le (M.own b id h).1 hb.size,(M.own b id h).2⟩,fun b o h=>?_,M.roww,M.nsub,M.uniq⟩
 ·obtain⟨h1,cur,T,h2,h3⟩:=M.box id cs h
  exact⟨h1,cur,T,(hb.block _ (M.own _ _ h1).1).trans h2,h3.ext E⟩
 ·obtain⟨h1,y,h2,h3⟩:=M.fbox id cs h j u hj
  exact⟨.inl h1,y,(E.A _ _ h1).2.trans h2,h3.keep E.A⟩
 ·obtain⟨h1,h2⟩:=M.iter id y h
  exact⟨h1,h2.at E.A E.loc (le_refl _) (hb.block _ (M.own _ _ h1).1)⟩
 ·rcases h with h|⟨h1,h2⟩
  ·exact⟨lt_of_lt_of_le (M.imm b o h).1 hb.size,(M.imm b o h).2⟩
  ·exact⟨h2,fun id hG _=>by have:=(M.own b id hG).1;omega⟩
theorem QH{W:World}{b o k:Nat}{vs:List Value}{b':Nat}(h:b'≠b):(W.setCells b o vs).heap[b']?=W.heap[b']?:=by
 induction vs generalizing o W with
 |nil=>rfl
 |cons v r ih =>
  show((W.setCell ⟨b,o,none⟩ v).setCells b (o+1) r).heap[b']?=_
  rw[ih];exact Below.heap_setCell W _ v b' h
theorem Q1V{W:World}{b:Nat}{T:TypeId}{fr:Nat×Nat}:∀(vs:List Value)(o:Nat)(W:World)(cur:Array Value),W.heap[b]?=some (.cells cur T fr)->o+vs.length<=cur.size ->
  (W.setCells b o vs).heap[b]?=some (.cells (cur.toList.take o++(vs++cur.toList.drop (o+vs.length))).toArray T fr)
 | [],o,W,cur,h,_=>by
  show W.heap[b]?=_;rw[h];simp
 |v::r,o,W,cur,h,hl=>by
  have h1:(W.setCell ⟨b,o,none⟩ v).heap[b]?=some (.cells (cur.setIfInBounds o v) T fr):=by
   simp only[World.setCell,Array.getElem?_modify,if_true,h,map_some];rfl
  have h2:=Q1V (W:=W) r (o+1) _ _ h1 (by simp at hl ⊢;omega)
  show((W.setCell ⟨b,o,none⟩ v).setCells b (o+1) r).heap[b]?=_
  rw[h2];congr 2
  have ho:o<cur.toList.length:=by simp at hl ⊢;omega
  rw[Array.toList_setIfInBounds,List.take_succ_eq_append_getElem (by simpa using ho),List.getElem_set_self,List.take_set_of_le (by omega),List.drop_set_of_lt (by omega)]
  simp only[append_assoc,List.singleton_append,List.cons_append,length_cons,nil_append];rw[show o+1+r.length=o+(r.length+1) by omega]
theorem Q1o(W:World)(b o:Nat)(vs:List Value):(W.setCells b o vs).heap.size=W.heap.size:=by
 induction vs generalizing o W with
 |nil=>rfl
 |cons v r ih =>
  show((W.setCell ⟨b,o,none⟩ v).setCells b (o+1) r).heap.size=_
  rw[ih];simp[World.setCell]
theorem Qb4(M:Mem w g ob){id:Nat}{cs:List AV}(h:ob[id]?=some (.box cs)){b o:Nat}(hA:g.A b o):b≠g.loc id:=by
 rintro rfl;obtain⟨et,sz,e,xs,h1,_⟩:=(M.imm _ _ hA).2 id (M.box id cs h).1 (M.nosub (M.box id cs h).1 fun _ _ _ _ _ h2=>by rw[h]at h2;cases h2)
 rw[h]at h1;cases h1
theorem Ext.store(M:Mem w g ob){id:Nat}{cs:List AV}(h:ob[id]?=some (.box cs))(off:Nat)(vs:List Value)(us:List AV) :
  Ext w g ob (w.setCells (g.loc id) off vs) g (ob.set id (.box us)):=by
 have hl:=Q4 h
 have ne:∀{b id':Nat},g.G b=some id'->id'≠id->b≠g.loc id:=by
  rintro b id' hG jL rfl;rw[(M.box id cs h).1]at hG;exact jL (by simpa using hG.symm)
 refine⟨fun b o hA=>⟨hA,World.cell?_of_block (w:=w) (QH (k:=0) (Qb4 M h hA))⟩,fun _ _=>rfl,fun i hi=>?_,fun i hi=>?_,fun i et sz fz e xs hi=>⟨fz,e,xs,?_,le_refl _,fun _=>.inl ⟨rfl,fun b hG=>⟨hG,?_⟩⟩⟩,fun _ _ _ _=>⟨rfl,fun _ _ h=>h⟩⟩
 ·by_cases e:i=id
  ·subst e;rw[getElem?_set_self hl];trivial
  ·rw[getElem?_set_ne (Ne.symm e)];exact hi
 ·by_cases e:i=id
  ·subst e;rw[h]at hi;exact hi.elim
  ·rw[getElem?_set_ne (Ne.symm e)];exact hi
 ·by_cases e:i=id
  ·subst e;rw[h]at hi;cases hi
  ·rw[getElem?_set_ne (Ne.symm e)];exact hi
 ·by_cases e:i=id
  ·subst e;rw[h]at hi;cases hi
  ·exact QH (k:=0) (ne hG e)
theorem Mem.store(M:Mem w g ob){id:Nat}{cs:List AV}(h:ob[id]?=some (.box cs)){off:Nat}{vs:List Value}{us:List AV}(hv:ARelC w g ob vs us)(hl:off+us.length<=cs.length) :
  Mem (w.setCells (g.loc id) off vs) g (ob.set id (.box (setCells cs off us))):=by
 have E:=Ext.store M h off vs (setCells cs off us);have hid:=Q4 h;obtain⟨h1,cur,T,h2,h3⟩:=M.box id cs h
 have ne:∀{b id':Nat},g.G b=some id'->id'≠id->b≠g.loc id:=by
  rintro b id' hG jL rfl;rw[h1]at hG;exact jL (by simpa using hG.symm)
 have qY:cur.size=cs.length:=by simpa using h3.1
 refine⟨fun i c hi=>?_,fun i c hi j u hj=>?_,fun i y hi=>?_,fun b i hG=>by rw[Q1o,List.length_set];exact M.own b i hG,fun b o hA=>?_,fun i et sz fz e xs hi=>?_,fun b hs=>?_,M.uniq⟩
 ·by_cases e:i=id
  ·subst e
   rw[getElem?_set_self hid]at hi;obtain rfl:setCells cs off us=c:=by simpa using hi
   refine⟨h1,_,T,Q1V (W:=w) vs off w cur h2 (by rw[hv.1,qY];exact hl),?_⟩
   have:=Q7A h3 hv hl
   exact(ARelC.ext E this)
  ·rw[getElem?_set_ne (Ne.symm e)]at hi
   obtain⟨h4,cur',T',h5,h6⟩:=M.box i c hi;exact⟨h4,cur',T',by rw[QH (k:=0) (ne h4 e)];exact h5,h6.ext E⟩
 ·by_cases e:i=id
  ·subst e;rw[getElem?_set_self hid]at hi;cases hi
  ·rw[getElem?_set_ne (Ne.symm e)]at hi
   obtain⟨h4,y,h5,h6⟩:=M.fbox i c hi j u hj;exact⟨h4,y,by rw[(E.A _ _ h4).2];exact h5,h6.keep E.A⟩
 ·by_cases e:i=id
  ·subst e;rw[getElem?_set_self hid]at hi;cases hi
  ·rw[getElem?_set_ne (Ne.symm e)]at hi
   obtain⟨h4,h5⟩:=M.iter i y hi;exact⟨h4,h5.at E.A E.loc (by simp) (QH (k:=0) (ne h4 e))⟩
 ·obtain⟨h4,h5⟩:=M.imm b o hA
  refine⟨by rw[Q1o];exact h4,fun i hG hs=>?_⟩
  obtain⟨et,sz,e,xs,h6,h7⟩:=h5 i hG hs;have jL:i≠id:=by rintro rfl;rw[h]at h6;cases h6
  exact⟨et,sz,e,xs,by rw[getElem?_set_ne (Ne.symm jL)];exact h6,h7⟩
 ·by_cases e':i=id
  ·subst e';rw[getElem?_set_self hid]at hi;cases hi
  ·rw[getElem?_set_ne (Ne.symm e')]at hi;exact M.roww i et sz fz e xs hi
 ·obtain⟨i,et,sz,fz,e,xs,h4,h5⟩:=M.nsub b hs
  have e':i≠id:=by rintro rfl;rw[h]at h5;cases h5
  exact⟨i,et,sz,fz,e,xs,h4,by rw[getElem?_set_ne (Ne.symm e')];exact h5⟩
end
section
variable {P:Program}{w:World}
theorem Qap{t u ty e:TypeId}{i:TypeInfo}{z:Value}{d:TypeDesc}{size:Nat}(ht:P.underlying t=some (.slice e))(hu:P.underlying u=some d)(hd:(∃e',d=.slice e')\/d=.string)(hi:P.info? e=some i)(hz:i.zero=some z)
  (yJ:i.size=size) (gk:i.bytes<=140000) (gJ:z.cells.size=size)
  {v:Value} {n:Nat} {xs:List Value} (jG:w.ownsRow 0 e size v n xs) {x:Value} {m:Nat} {news:List Value} (hl:news.length=m * size)
  (jC:∀W,(Builtin.lenOf x).run P W=.ok m W) (kK:∀W:World,W.heap=w.heap->(Builtin.firstCells size m x).run P W=.ok news.toArray W) (h1:∀u∈news,u.oneCell'=true) (hb:n+m<=1000000000) :
  ∃v' w',(Builtin.append_ #[t,u] ty #[v,x]).run P w=.ok v' w'/\w'.ownsRow 0 e size v' (n+m) (xs++news)/\w.grownBy w' v.ownBlock/\(v'.ownBlock=v.ownBlock\/v'.ownBlock=some w.heap.size) /\
   (∀b k,b<w.heap.size->(v.ownBlock=some b->k<n * size)->w'.cell? ⟨b,k,none⟩=w.cell? ⟨b,k,none⟩):=by
 subst yJ;have nU:(n+m) * i.bytes<=140737488355328:=Nat.le_trans (Nat.mul_le_mul hb gk) (by decide)
 have qJ:(xs++news).length=(n+m) * i.size:=by rw[List.length_append,jG.1,hl,add_mul]
 -- the arm that grows
 have grow:∀(old:Nat)(base:Option Addr),old<n+m->(∀W:World,W.heap=w.heap->(Builtin.firstCells i.size n (.slice base n old)).run P W=.ok xs.toArray W) ->
   (Builtin.append_ #[t,u] ty #[.slice base n old,x]).run P w=.ok (.slice (some ⟨w.heap.size,0,none⟩) (n+m) (grownCap w (n+m) old e))
    (w.drew.alloc (.cells (xs.toArray++news.toArray++Builtin.zeroCells z.cells (grownCap w (n+m) old e-(n+m))) e)):=by
  intro old base ho nR;have a1:¬n+m<=old:=by omega
  have a2:¬(9223372036854775807<((n:Int)+(m:Int))):=by omega
  have a3:¬(281474976710656<Builtin.nextslicecap (n+m) old * i.bytes):=by have:=growslice_fits (old:=old) (by omega) nU;omega
  have hf:=kK w.drew rfl;have qP:=nR w.drew rfl;rcases hd with ⟨e',rfl⟩|rfl<;>simp[Builtin.append_,run_underlying ht,run_underlying hu,sizeOf,typeInfo,zeroValue,hi,hz,jC,a1,a2,a3,Question.forced,hf,qP,newRow,grownCap]
  all_goals
   congr 2
   apply Array.ext';simp only[Array.toList_append,append_assoc]
 have grown:∀(old:Nat),old<n+m->∀(row:Option Nat),
   (w.drew.alloc (.cells (xs.toArray++news.toArray++Builtin.zeroCells z.cells (grownCap w (n+m) old e-(n+m))) e)).ownsRow 0 e i.size
    (.slice (some ⟨w.heap.size,0,none⟩) (n+m) (grownCap w (n+m) old e)) (n+m) (xs++news):=by
  intro old ho row;have gL:=grownCap_ge w (n+m) old e;have kq:grownCap w (n+m) old e<=maxLen:=grownCap_le_maxLen w (n+m) old e (by unfold maxLen;omega)
  refine⟨qJ,.inr ⟨w.heap.size,_,_,rfl,Nat.zero_le _,Q5D w.drew _,gL,kq,?_,?_⟩⟩
  ·rw[Array.size_append,size_zeroCells,gJ,Array.size_append,size_toArray,size_toArray,jG.1,hl,<-add_mul,<-add_mul]
   congr 1
   omega
  ·rw[<-qJ,Array.toList_append,Array.toList_append]
   exact List.take_left
 have keepG:∀(o:Obj)(row:Option Nat),w.grownBy (w.drew.alloc o) row:=fun o row=>⟨rfl,rfl,rfl,by simp,fun k hk _=>Q3G (w:=w.drew) hk⟩
 have keepC:∀(o:Obj)(b k:Nat),b<w.heap.size->(w.drew.alloc o).cell? ⟨b,k,none⟩=w.cell? ⟨b,k,none⟩:=fun o b k hb=>World.cell?_of_block (w:=w) (Q3G (w:=w.drew) hb)
 rcases jG.2 with ⟨rfl,rfl⟩|⟨g,cap,cur,rfl,nP,hg,pl,kq,hcs,gx⟩
 ·have hx:xs=[]:=List.eq_nil_of_length_eq_zero (by simpa using jG.1)
  subst hx;by_cases hm:m=0
  ·subst hm
   have hn:news=[]:=List.eq_nil_of_length_eq_zero (by simpa using hl)
   subst hn;refine⟨.slice none 0 0,w,?_,World.ownsRow_nil w 0 e i.size,⟨rfl,rfl,rfl,le_refl _,fun _ _ _=>rfl⟩,.inl rfl,fun _ _ _ _=>rfl⟩
   have hf:=kK w rfl;rcases hd with ⟨e',rfl⟩|rfl<;>simp[Builtin.append_,run_underlying ht,run_underlying hu,sizeOf,typeInfo,hi,jC,hf]
  ·have hr:=grow 0 none (by omega) (fun W _=>by simp[Builtin.firstCells])
   exact⟨_,_,hr,grown 0 (by omega) none,keepG _ _,.inr rfl,fun b k hb _=>keepC _ b k hb⟩
 ·by_cases z6:n+m<=cap
  ·have nV:n * i.size+news.length<=cur.size:=by rw[hl,hcs,<-add_mul];exact Nat.mul_le_mul_right _ z6
   have jI:=run_storeCells_at P g (n * i.size) e news 0 cur w hg (by simpa using nV) h1
   simp only[add_zero]at jI;have hf:=kK w rfl
   have hr:(Builtin.append_ #[t,u] ty #[.slice (some ⟨g,0,none⟩) n cap,x]).run P w =
     .ok (.slice (some ⟨g,0,none⟩) (n+m) cap) (w.setRow g (cur.toList.take (n * i.size)++news++cur.toList.drop (n * i.size+news.length)).toArray):=by
    rcases hd with ⟨e',rfl⟩|rfl<;>simp[Builtin.append_,run_underlying ht,run_underlying hu,sizeOf,typeInfo,hi,jC,z6,hf,Addr.add_lit,jI]
   have jY:=setRow_heap w g cur (cur.toList.take (n * i.size)++news++cur.toList.drop (n * i.size+news.length)).toArray e _ hg;have jE:g<w.heap.size:=(Array.getElem?_eq_some_iff.1 hg).1;refine⟨_,_,hr,⟨qJ,.inr ⟨g,cap,_,rfl,nP,jY,z6,kq,?_,?_⟩⟩,⟨rfl,rfl,rfl,by simp,fun k _ hk=>setRow_other w g k _ (fun e=>hk (by simp[Value.ownBlock,e]))⟩,.inl rfl,fun b k hb hk=>?_⟩
   ·simp only[size_toArray,List.length_append,length_take,List.length_drop,Array.length_toList]
    omega
   ·rw[gx,<-qJ]
    exact List.take_left
   ·by_cases xW:b=g
    ·subst xW
     have gE:=hk rfl;simp only[World.cell?,jY,hg];have h2:k<cur.size:=by omega
     have h3:k<(cur.toList.take (n * i.size)).length:=by rw[length_take,Array.length_toList];omega
     rw[append_assoc];simp only[Option.isSome_none,Bool.false_eq_true,if_false];rw[List.getElem?_toArray,getElem?_append_left h3,getElem?_take,if_pos gE,Array.getElem?_toList]
    ·exact World.cell?_of_block (w:=w) (setRow_other w g b _ xW)
  ·have hr:=grow cap (some ⟨g,0,none⟩) (by omega) (fun W hW=>by
    have:∀j u,xs[j]?=some u->W.cell? ((⟨g,0,none⟩:Addr).add j)=some u:=fun j u hj=>by
     rw[show W.cell? ((⟨g,0,none⟩:Addr).add j)=w.cell? ((⟨g,0,none⟩:Addr).add j) from by simp only[World.cell?,hW]]
     exact jG.cells (g:=g) rfl j u hj
    have h2:=run_loadCells_list (P:=P) W (⟨g,0,none⟩:Addr) xs this;rw[jG.1]at h2;simpa[Builtin.firstCells]using h2)
   exact⟨_,_,hr,grown cap (by omega) none,keepG _ _,.inr rfl,fun b k hb _=>keepC _ b k hb⟩
end
section
variable {w w':World}{g:Gh}{ob:List Ob}
def Gh.grow(g:Gh)(id:Nat)(vb:Option Nat):Gh:=⟨g.A,fun b=>if vb=some b then some id else if g.G b=some id/\g.sub b=false then none else g.G b,g.loc,g.sub⟩
theorem Gh.grow_self{id:Nat}{vb:Option Nat}{b:Nat}(h:vb=some b):(g.grow id vb).G b=some id:=by
 show(if vb=some b then some id else _)=_
 rw[if_pos h]
theorem Gh.grow_of{id:Nat}{vb:Option Nat}{b i:Nat}(h:(g.grow id vb).G b=some i):(vb=some b/\i=id)\/(g.G b=some i/\(i=id->g.sub b=true)):=by
 have h:(if vb=some b then some id else if g.G b=some id/\g.sub b=false then none else g.G b)=some i:=h;split at h
 ·rename_i e;exact .inl ⟨e,(Option.some.inj h).symm⟩
 ·split at h
  ·cases h
  ·rename_i h2
   refine .inr ⟨h,fun e=>?_⟩
   cases hs:g.sub b with
   |true=>rfl
   |false=>exact absurd ⟨e ▸ h,hs⟩ h2
theorem Mem.grow_sub(M:Mem w g ob){id:Nat}{row vb:Option Nat}(jY:∀b,row=some b->g.G b=some id/\g.sub b=false)(yE:∀b,vb=some b->row=some b\/(w.heap.size<=b/\b<w'.heap.size))
  {b i:Nat} (h:g.G b=some i) (hs:g.sub b=true):(g.grow id vb).G b=some i:=by
 have h1:vb≠some b:=fun e=>by
  rcases yE b e with h2|h2
  ·rw[(jY b h2).2]at hs;cases hs
  ·have:=(M.own b i h).1;omega
 show(if vb=some b then some id else if g.G b=some id/\g.sub b=false then none else g.G b)=_
 rw[if_neg h1,if_neg (fun h2=>by rw[h2.2]at hs;cases hs)]
 exact h
theorem Mem.grow_ne(M:Mem w g ob){id:Nat}{row vb:Option Nat}(jY:∀b,row=some b->g.G b=some id/\g.sub b=false)(yE:∀b,vb=some b->row=some b\/(w.heap.size<=b/\b<w'.heap.size))
  {b i:Nat} (h:g.G b=some i) (hi:i≠id):(g.grow id vb).G b=some i:=by
 have h1:vb≠some b:=fun e=>by
  rcases yE b e with h2|h2
  ·have:=(jY b h2).1.symm.trans h
   exact hi (Option.some.inj this).symm
  ·have:=(M.own b i h).1;omega
 show(if vb=some b then some id else if g.G b=some id/\g.sub b=false then none else g.G b)=_
 rw[if_neg h1,if_neg (fun h2=>hi (Option.some.inj (h.symm.trans h2.1)))]
 exact h
theorem Mem.grow(M:Mem w g ob){id et sz ep:Nat}{fz fz':Bool}{xs xs':List AV}(h:ob[id]?=some (.row et sz fz ep xs))(hfz:fz=true->fz'=true)
  {row vb:Option Nat} {n:Nat} (hg:w.grownBy w' row) (jY:∀b,row=some b->g.G b=some id/\g.sub b=false) (yE:∀b,vb=some b->row=some b\/(w.heap.size<=b/\b<w'.heap.size))
  (hc:∀b k,b<w.heap.size->(row=some b->k<n * sz)->w'.cell? ⟨b,k,none⟩=w.cell? ⟨b,k,none⟩)
  (hn:fz=true->xs.length<=n) (jC:fz=true->xs.length<=xs'.length) (hw:∀x∈xs',x.cells.length=sz) :
  Ext w g ob w' (g.grow id vb) (ob.set id (.row et sz fz' (ep+1) xs'))/\Mem w' (g.grow id vb) (ob.set id (.row et sz fz' (ep+1) xs')):=by
 have hid:=Q4 h;have jL:∀{b i:Nat},g.G b=some i->i≠id->(g.grow id vb).G b=some i:=fun h1 h2=>M.grow_ne jY yE h1 h2
 have qs:∀b,vb=some b->b<w'.heap.size:=fun b hb=>by
  rcases yE b hb with h1|h1
  ·exact lt_of_lt_of_le (M.own b id (jY b h1).1).1 hg.size
  ·exact h1.2
 have ne:∀{b i:Nat},g.G b=some i->i≠id->some b≠row:=by
  rintro b i h1 h2 h3;rw[(jY b h3.symm).1]at h1;exact h2 (by simpa using h1.symm)
 have hA:∀b o,g.A b o->w'.cell? ⟨b,o,none⟩=w.cell? ⟨b,o,none⟩:=fun b o hA=>by
  obtain⟨h1,h2⟩:=M.imm b o hA;refine hc b o h1 fun hb=>?_
  obtain⟨et',sz',e',xs2,h3,h4⟩:=h2 id (jY b hb).1 (jY b hb).2;rw[h]at h3;obtain⟨rfl,rfl,rfl,rfl,rfl⟩:et=et'/\sz=sz'/\fz=true/\ep=e'/\xs=xs2:=by simpa using h3
  exact lt_of_lt_of_le h4 (Nat.mul_le_mul_right _ (hn rfl))
 have E:Ext w g ob w' (g.grow id vb) (ob.set id (.row et sz fz' (ep+1) xs')):=by
  refine⟨fun b o h=>⟨h,hA b o h⟩,fun _ _=>rfl,fun i hi=>?_,fun i hi=>?_,fun i et' sz' fz2 e xs2 hi=>?_,fun _ _ _ _=>⟨rfl,fun _ _ h=>h⟩⟩
  ·have:i≠id:=by rintro rfl;rw[h]at hi;exact hi
   rw[getElem?_set_ne (Ne.symm this)];exact hi
  ·have:i≠id:=by rintro rfl;rw[h]at hi;exact hi
   rw[getElem?_set_ne (Ne.symm this)];exact hi
  ·by_cases e':i=id
   ·subst e'
    rw[h]at hi;obtain⟨rfl,rfl,rfl,rfl,rfl⟩:et=et'/\sz=sz'/\fz=fz2/\ep=e/\xs=xs2:=by simpa using hi
    exact⟨fz',ep+1,xs',getElem?_set_self hid,by omega,fun h=>by omega⟩
   ·refine⟨fz2,e,xs2,by rw[getElem?_set_ne (Ne.symm e')];exact hi,le_refl _,fun _=>.inl ⟨rfl,fun b hG=>?_⟩⟩
    have jE:=(M.own _ _ hG).1;exact⟨jL hG e',hg.block b jE (ne hG e')⟩
 refine⟨E,fun i cs hi=>?_,fun i cs hi j u hj=>?_,fun i y hi=>?_,fun b i hG=>?_,fun b o zJ=>?_,fun i et' sz' fz2 e xs2 hi=>?_,fun b hs=>?_,fun b b' i h1 h2 hs jf=>?_⟩
 ·have e':i≠id:=by rintro rfl;rw[getElem?_set_self hid]at hi;cases hi
  rw[getElem?_set_ne (Ne.symm e')]at hi;obtain⟨h1,cur,T,h2,h3⟩:=M.box i cs hi;have jE:=(M.own _ _ h1).1;exact⟨jL h1 e',cur,T,(hg.block _ jE (ne h1 e')).trans h2,h3.ext E⟩
 ·have e':i≠id:=by rintro rfl;rw[getElem?_set_self hid]at hi;cases hi
  rw[getElem?_set_ne (Ne.symm e')]at hi;obtain⟨h1,y,h2,h3⟩:=M.fbox i cs hi j u hj;exact⟨h1,y,(hA _ _ h1).trans h2,h3.keep E.A⟩
 ·have e':i≠id:=by rintro rfl;rw[getElem?_set_self hid]at hi;cases hi
  rw[getElem?_set_ne (Ne.symm e')]at hi;obtain⟨h1,h2⟩:=M.iter i y hi;have jE:=(M.own _ _ h1).1;exact⟨jL h1 e',h2.at (fun b o h=>⟨h,hA b o h⟩) E.loc (by simp) (hg.block _ jE (ne h1 e'))⟩
 ·rw[List.length_set]
  rcases Gh.grow_of hG with ⟨h1,rfl⟩|⟨h1,_⟩
  ·exact⟨qs b h1,hid⟩
  ·exact⟨lt_of_lt_of_le (M.own b i h1).1 hg.size,(M.own b i h1).2⟩
 ·obtain⟨h1,h2⟩:=M.imm b o zJ
  refine⟨lt_of_lt_of_le h1 hg.size,fun i hG hs=>?_⟩
  have hG:g.G b=some i:=by
   rcases Gh.grow_of hG with ⟨h3,rfl⟩|⟨h3,_⟩
   ·rcases yE b h3 with h4|h4
    ·exact(jY b h4).1
    ·omega
   ·exact h3
  obtain⟨et',sz',e,xs2,h3,h4⟩:=h2 i hG hs;by_cases e':i=id
  ·subst e'
   rw[h]at h3;obtain⟨rfl,rfl,rfl,rfl,rfl⟩:et=et'/\sz=sz'/\fz=true/\ep=e/\xs=xs2:=by simpa using h3
   exact⟨et,sz,ep+1,xs',by rw[getElem?_set_self hid,hfz rfl],lt_of_lt_of_le h4 (Nat.mul_le_mul_right _ (jC rfl))⟩
  ·exact⟨et',sz',e,xs2,by rw[getElem?_set_ne (Ne.symm e')];exact h3,h4⟩
 ·by_cases e':i=id
  ·subst e'
   rw[getElem?_set_self hid]at hi;obtain⟨rfl,rfl,rfl,rfl,rfl⟩:et=et'/\sz=sz'/\fz'=fz2/\ep+1=e/\xs'=xs2:=by simpa using hi
   exact⟨(M.roww _ _ _ _ _ _ h).1,hw⟩
  ·rw[getElem?_set_ne (Ne.symm e')]at hi;exact M.roww i et' sz' fz2 e xs2 hi
 ·obtain⟨i,et',sz',fz2,e,xs2,h3,h4⟩:=M.nsub b hs
  have h5:(g.grow id vb).G b=some i:=M.grow_sub jY yE h3 hs;by_cases e':i=id
  ·subst e'
   exact⟨i,_,_,_,_,_,h5,getElem?_set_self hid⟩
  ·exact⟨i,et',sz',fz2,e,xs2,h5,by rw[getElem?_set_ne (Ne.symm e')];exact h4⟩
 ·rcases Gh.grow_of h1 with ⟨h3,rfl⟩|⟨h3,h4⟩
  ·rcases Gh.grow_of h2 with ⟨h5,_⟩|⟨h5,h6⟩
   ·exact Option.some.inj (h3.symm.trans h5)
   ·have:=h6 rfl
    rw[show g.sub b'=false from jf]at this;cases this
  ·rcases Gh.grow_of h2 with ⟨h5,rfl⟩|⟨h5,h6⟩
   ·have:=h4 rfl
    rw[show g.sub b=false from hs]at this;cases this
   ·exact M.uniq b b' i h3 h5 hs jf
end
