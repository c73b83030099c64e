/-
  Parts of the proof, joined: Of Lt ClA ClP ClM Vb Vc Op. Conditions: as each theorem says.
-/
import Derived.Test.YthbjpdijafccjaaGreatQE14
import Derived.Test.YthbjpdijafccjaaGreatQE05
import Derived.Test.YthbjpdijafccjaaGreatQE01
import Derived.Test.YthbjpdijafccjaaGreatQE02
import Derived.Test.YthbjpdijafccjaaGreatQE13
set_option maxRecDepth 100000
set_option maxHeartbeats 8000000
namespace Go.Proofs.YthbjpdijafccjaaGreat
open Go.RowKit Go.Lib Tryz
section
variable {w w':World} {A':Nat→Nat→Prop}
end
theorem Qir (b:List UInt8)(s:ByteArray):BCall prog 61 [.slc 1 (Q2 b),.val (.string s)] [] (.val (.bool (s.data.toList.isPrefixOf b))) []:=by
 obtain⟨n,hn⟩:=Qy b
 have hlen:std.len (Q2 b)=n:=by show ((Q2 b).length:Int)=n;rw[Q10,hn.eq]
 obtain⟨z,hz⟩:∃ z:Int,IsN s.size z:=⟨_,rfl⟩
 have hsz:std.szS s=z:=hz.eq.symm
 refine fnN (cs:=cs0) func61 rfl (by kernel_rfl) ?_
 intro w0 g0
 generalize hp:std=p,hB:Q2 b=B
 generalize hT:Q5 p tys (cs0) _ _ _ _=T
 cbv at hT
 subst hT
 simp only[Tree.ok,Q1,S0]
 subst hp hB
 have hzn:=hz.eq
 have key:std.cut (Q2 b) 0 z=Q2 (b.take s.size):=by
  show ((Q2 b).drop (0:Int).toNat).take (z-0).toNat=_
  rw[hzn]
  simp[Q2,List.map_take]
 refine⟨fun h=>⟨?_,?_,.pure rfl (.inl ?_)⟩,fun h=>.pure rfl (.inl ?_)⟩
 ·have h:std.szS s≤std.len (Q2 b):=of_decide_eq_true h
  show 0≤(0:Int)∧0≤std.szS s∧std.szS s≤std.len (Q2 b)
  rw[hsz] at h ⊢
  omega
 ·show std.isB (std.cut (Q2 b) 0 (std.szS s))
  rw[hsz,key];exact Q4u _
 ·show AV.val (.bool (std.eqS (std.strB (std.cut (Q2 b) 0 (std.szS s))) s))=_
  rw[hsz,key,Q9T]
  show AV.val (.bool ((⟨(b.take s.size).toArray⟩:ByteArray).toList == s.toList))=_
  rw[ByteArray.toList_eq,ByteArray.toList_eq]
  congr 2
  have e:s.size=s.data.toList.length:=by simp
  rw[Bool.eq_iff_iff,beq_iff_eq,List.isPrefixOf_iff_prefix,List.prefix_iff_eq_take,e]
  exact⟨fun h=>h.symm,fun h=>h.symm⟩
 ·have h:¬ std.szS s≤std.len (Q2 b):=of_decide_eq_false h
  rw[hsz,hlen] at h
  have hx:s.data.toList.isPrefixOf b=false:=by
   cases hp:s.data.toList.isPrefixOf b with
   |false=>rfl
   |true =>
    exfalso
    have:=(List.isPrefixOf_iff_prefix.1 hp).length_le
    have e:s.size=s.data.toList.length:=by simp
    have:=hn.eq
    omega
  rw[hx]
def Qmn (bg:ByteArray→Bool):Nat→List AV→List Ob→Option (AV×List Ob):=fun f args _=>match f,args with
 |61,[.slc 1 _,.val (.string s)]=>some (.val (.bool (bg s)),[])
 |_,_=>none
def bgA (b:List UInt8)(s:ByteArray):Bool:=s.data.toList.isPrefixOf b
theorem QfQ (b:List UInt8):BCall prog 33 [.slc 1 (Q2 b)] [] (.tup [.val (.int .i64 (QQ b).1),.val (.int .i64 (QQ b).2)]) []:=by
 have cB:=fun s=>Qir b s
 have cB:∀ s,BCall prog 61 [.slc 1 (Q2 b),.val (.string s)] [] (.val (.bool (bgA b s))) []:=cB
 obtain⟨K,hK⟩:=exq (QQ b)
 rw[←hK]
 refine fnN (cs:=Qmn (bgA b)) func33 rfl (by kernel_rfl) ?_
 intro w0 g0
 generalize hp:std=p,hbg:bgA b=bg,hB:Q2 b=B
 generalize hT:Q5 p tys (Qmn bg) _ _ _ _=T
 cbv at hT
 subst hT
 simp only[Tree.ok,Q1,S0]
 subst hp hbg hB
 have e:K=if bgA b ⟨#[254,255]⟩=true then (1,2) else if bgA b ⟨#[255,254]⟩=true then (2,2) else if bgA b ⟨#[239,187,191]⟩=true then (0,3) else if bgA b ⟨#[0,60,0,63]⟩=true then (1,0) else if bgA b ⟨#[60,0,63,0]⟩=true then (2,0) else (0,0):=by
  rw[hK]
  unfold QQ kR signsL bgA
  simp only[List.drop_zero,List.find?]
  cases [254,255].isPrefixOf b<;>cases [255,254].isPrefixOf b<;>cases [239,187,191].isPrefixOf b<;>cases [0,60,0,63].isPrefixOf b<;>cases [60,0,63,0].isPrefixOf b<;>rfl
 rw[e]
 refine⟨cB _,fun h1=>?_,fun h1=>⟨cB _,fun h2=>?_,fun h2=>⟨cB _,fun h3=>?_,fun h3=>⟨cB _,fun h4=>?_,fun h4=>⟨cB _,fun h5=>?_,fun h5=>?_⟩⟩⟩⟩⟩
 all_goals
  simp only[*]
  exact .pure rfl ⟨.inl rfl,.inl rfl,trivial⟩
def Qin:List AV:=[.opt (.val (.pointer none)),.val (.int .i64 0),.val (.int .i64 0),.val (.int .i64 0),.opt (.val (.pointer none))]
theorem Qht (l:List Node)(c:Cur)(k:Int)(hk:¬ (0≤k∧k<(Qq l c).length))(hn:(Qq l c).length≤1000000):BCall prog 19 [.agg (c.el (Q7 l)),.val (.int .i64 k)] [] (.tup [.agg Qin,.val (.bool false)]) [] :=
 ((Qff l c k hk hn).le (args:=[.agg (c.el (Q7 l)),.val (.int .i64 k)]) ⟨⟨.inr (.inr (.inr rfl)),.inl rfl,.inl rfl,.inl rfl,.inl rfl,trivial⟩,.inl rfl,trivial⟩).res (res':=.tup [.agg Qin,.val (.bool false)]) ⟨⟨.inr (.inr (.inl ⟨rfl,trivial⟩)),.inl rfl,.inl rfl,.inl rfl,.inr (.inr (.inl ⟨rfl,trivial⟩)),trivial⟩,.inl rfl,trivial⟩
def dOk (l:List Node)(c:Cur)(k:Int):Bool:=decide (0≤k∧k<(Qq l c).length)
def pE (l:List Node)(c:Cur)(k:Int):AV:=if dOk l c k=true then .ref [.slc 6 (Q7 l)] else .val (.pointer none)
def nE (l:List Node)(c:Cur)(k:Int):Int:=if dOk l c k=true then (Q2z l c k).n else 0
def fE (l:List Node)(c:Cur)(k:Int):Int:=if dOk l c k=true then (Q2z l c k).f else 0
def kE (l:List Node)(c:Cur)(k:Int):Int:=if dOk l c k=true then k else 0
def uE (l:List Node)(c:Cur)(k:Int):AV:=if dOk l c k=true then upO (Q7 l) (Q2z l c k) else .val (.pointer none)
def dE (l:List Node)(c:Cur)(k:Int):List AV:=[.opt (pE l c k),.val (.int .i64 (nE l c k)),.val (.int .i64 (fE l c k)),.val (.int .i64 (kE l c k)),.opt (uE l c k)]
theorem QiQ {l:List Node}{c:Cur}{k:Int}(h:dOk l c k=true):dE l c k=(Q2z l c k).el (Q7 l):=by
 unfold dE pE nE fE kE uE
 rw[if_pos h,if_pos h,if_pos h,if_pos h,if_pos h];rfl
theorem QlB {l:List Node}{c:Cur}{k:Int}(h:dOk l c k=false):dE l c k=Qin:=by
 unfold dE pE nE fE kE uE
 rw[h];rfl
theorem QhW (l:List Node)(c:Cur)(k:Int)(hw:∀ n,0≤QT l n)(ok:CurOk l c):BCall prog 19 [.agg (c.el (Q7 l)),.val (.int .i64 k)] [] (.tup [.agg (dE l c k),.val (.bool (dOk l c k))]) []:=by
 by_cases h:0≤k∧k<(Qq l c).length
 ·have ho:dOk l c k=true:=decide_eq_true h
  rw[QiQ ho,ho];exact QkA l c k h.1 h.2 hw ok
 ·have ho:dOk l c k=false:=decide_eq_false h
  rw[QlB ho,ho];exact Qht l c k h ok.n
def QjM (q:AV)(n f k:Int)(u:AV)(ok:Bool):Nat→List AV→List Ob→Option (AV×List Ob):=fun g args _=>match g,args with
 |19,_=>some (.tup [.agg [.opt q,.val (.int .i64 n),.val (.int .i64 f),.val (.int .i64 k),.opt u],.val (.bool ok)],[])
 |46,_=>some (.tup [.agg [.opt q,.val (.int .i64 n),.val (.int .i64 f),.val (.int .i64 k),.opt u],.val (.bool ok)],[])
 |_,_=>none
theorem Qil (l:List Node)(hw:∀ n,0≤QT l n)(n f k d:Int)(u:Cur)(ok:CurOk l u)(hk:0≤k∧k≤1000000)(hd:0≤d∧d≤1000) :
  BCall prog 46 [.agg ((Cur.kid n f k u).el (Q7 l)),.val (.int .i64 d)] [] (.tup [.agg (dE l u (k+d)),.val (.bool (dOk l u (k+d)))]) []:=by
 have cD:=QhW l u (k+d) hw ok
 unfold dE at cD ⊢
 simp only[Cur.el] at cD ⊢
 show BCall _ _ [.agg [.opt (.ref [.slc 6 (Q7 l)]),.val (.int .i64 n),.val (.int .i64 f),.val (.int .i64 k),.opt (upO (Q7 l) (Cur.kid n f k u))],_] _ _ _
 obtain⟨U,hU⟩:=exq (upO (Q7 l) (Cur.kid n f k u))
 have hU1:Qd1 U=u.cs (Q7 l):=by rw[hU];rfl
 have hU2:Q4Z U∧Q6Y U=false:=by rw[hU];exact⟨trivial,rfl⟩
 rw[←hU]
 refine fnN (cs:=QjM (pE l u (k+d)) (nE l u (k+d)) (fE l u (k+d)) (kE l u (k+d)) (uE l u (k+d)) (dOk l u (k+d))) func46 rfl (by kernel_rfl) ?_
 intro w0 g0
 generalize hp:std=p,hq:pE l u (k+d)=q,hn':nE l u (k+d)=n',hf':fE l u (k+d)=f',hk':kE l u (k+d)=k',hu':uE l u (k+d)=u',ho:dOk l u (k+d)=o,hN:Q7 l=N
 generalize hT:Q5 p tys (QjM q n' f' k' u' o) _ _ _ _=T
 cbv at hT
 subst hT
 simp only[Tree.ok,Q1,S0]
 subst hp hq hn' hf' hk' hu' ho hN
 refine⟨fun h=>absurd (hU2.2.symm.trans (show Q6Y U=true from h)) (by decide),fun _=>?_⟩
 have hu2:Q4Z (.opt (upO (Q7 l) u)):=Qkf _ _
 simp only[std,hU1,Cur.cs,List.getD_cons_zero,List.getD_cons_succ,intOf,QlP,Q3p]
 refine⟨hU2,⟨trivial,trivial,trivial,trivial,hu2,trivial⟩,?_,cD,.pure rfl ⟨⟨.inl rfl,.inl rfl,.inl rfl,.inl rfl,.inl rfl,trivial⟩,.inl rfl,trivial⟩⟩
 show (-9223372036854775808:Int)≤k+d∧k+d≤(9223372036854775807:Int)
 omega
theorem Qkh (l:List Node)(hw:∀ n,0≤QT l n)(n f k:Int)(u:Cur)(ok:CurOk l u)(hk:0≤k∧k≤1000000) :
  BCall prog 20 [.agg ((Cur.kid n f k u).el (Q7 l))] [] (.tup [.agg (dE l u (k+1)),.val (.bool (dOk l u (k+1)))]) []:=by
 have cB:=Qil l hw n f k 1 u ok hk (by omega)
 unfold dE at cB ⊢
 simp only[Cur.el] at cB ⊢
 show BCall _ _ [.agg [.opt (.ref [.slc 6 (Q7 l)]),.val (.int .i64 n),.val (.int .i64 f),.val (.int .i64 k),.opt (upO (Q7 l) (Cur.kid n f k u))]] _ _ _
 have cB:BCall prog 46 [.agg [.opt (.ref [.slc 6 (Q7 l)]),.val (.int .i64 n),.val (.int .i64 f),.val (.int .i64 k),.opt (upO (Q7 l) (Cur.kid n f k u))],.val (.int .i64 1)] [] (.tup [.agg [.opt (pE l u (k+1)),.val (.int .i64 (nE l u (k+1))),.val (.int .i64 (fE l u (k+1))),.val (.int .i64 (kE l u (k+1))),.opt (uE l u (k+1))],.val (.bool (dOk l u (k+1)))]) []:=cB
 obtain⟨U,hU⟩:=exq (upO (Q7 l) (Cur.kid n f k u))
 rw[←hU] at cB ⊢
 clear hU
 refine fnN (cs:=QjM (pE l u (k+1)) (nE l u (k+1)) (fE l u (k+1)) (kE l u (k+1)) (uE l u (k+1)) (dOk l u (k+1))) func20 rfl (by kernel_rfl) ?_
 intro w0 g0
 generalize hp:std=p,hq:pE l u (k+1)=q,hn':nE l u (k+1)=n',hf':fE l u (k+1)=f',hk':kE l u (k+1)=k',hu':uE l u (k+1)=u',ho:dOk l u (k+1)=o,hN:Q7 l=N
 generalize hT:Q5 p tys (QjM q n' f' k' u' o) _ _ _ _=T
 cbv at hT
 subst hT
 simp only[Tree.ok,Q1,S0]
 subst hp hq hn' hf' hk' hu' ho hN
 exact⟨cB,.pure rfl ⟨⟨.inl rfl,.inl rfl,.inl rfl,.inl rfl,.inl rfl,trivial⟩,.inl rfl,trivial⟩⟩
theorem CurB.prOk {l:List Node}{b:List UInt8}{C:Nat}{c:Cur}(ha:Ar l)(hl:l.length≤1000000000)(hb:b.length≤1000000)(hC:C≤1000000)(h:CurB l b C c):PrOk l c.n:=by
 refine⟨hl,ha.wf,ha.wide,h.1.h0,h.1.h1,?_,by have:=h.1.co;omega⟩
 obtain⟨pre,post,e1,_⟩:=h.2
 have:=congrArg List.length e1
 simp only[List.length_append] at this
 omega
structure Ev where
 do_:Int
 kind:Int
 b:List UInt8
 deriving Inhabited,DecidableEq
def Ev.av (x:Ev):AV:=if x.do_=2 then .agg [.val (.int .i64 2),.val (.int .i64 x.kind),.slc 1 (Q2 x.b)] else .agg [.val (.int .i64 x.do_),.val (.int .i64 0),.val (.slice none 0 0)]
def Q2X (l:List Ev):List AV:=l.map Ev.av
theorem Qfg (a b:List Ev):Q2X (a++b)=Q2X a++Q2X b:=by simp[Q2X]
theorem QbP (a:List Ev):(Q2X a).length=a.length:=by simp[Q2X]
def spF (l:List Node):Nat→Int→Bool→List Ev
 |0,_,_=>[]
 |f+1,n,top=>if (Qj l n).kind≠21∧top=false then [⟨2,(Qj l n).kind,pr l n⟩]
  else (if top=true then [] else [⟨1,0,[]⟩])++(Qj l n).kids.flatMap (fun k=>spF l f k false)++(if top=true then [] else [⟨3,0,[]⟩])
def spV (l:List Node)(n:Int)(top:Bool):List Ev:=spF l (n.toNat+1) n top
theorem Qd8 {l:List Node}(hw:Wf l):∀ (f f':Nat) (n:Int) (top:Bool),0≤n→n<l.length→n.toNat<f→n.toNat<f'→spF l f n top=spF l f' n top
 |0,_,_,_,_,_,h,_=>by omega
 |_+1,0,_,_,_,_,_,h=>by omega
 |f+1,f'+1,n,top,h0,h1,h2,h3=>by
  simp only[spF]
  have:(Qj l n).kids.flatMap (fun k=>spF l f k false)=(Qj l n).kids.flatMap (fun k=>spF l f' k false):=by
   refine congrArg List.flatten (List.map_congr_left fun k hk=>?_)
   have:=hw n h0 h1 k hk
   exact Qd8 hw f f' k false this.1 (by omega) (by omega) (by omega)
  rw[this]
theorem Q9m {l:List Node}(hw:Wf l){n:Int}(h0:0≤n)(h1:n<l.length)(top:Bool):spV l n top=if (Qj l n).kind≠21∧top=false then [⟨2,(Qj l n).kind,pr l n⟩]
  else (if top=true then [] else [⟨1,0,[]⟩])++(Qj l n).kids.flatMap (fun k=>spV l k false)++(if top=true then [] else [⟨3,0,[]⟩]):=by
 show spF l (n.toNat+1) n top=_
 simp only[spF]
 have:(Qj l n).kids.flatMap (fun k=>spF l n.toNat k false)=(Qj l n).kids.flatMap (fun k=>spV l k false):=by
  refine congrArg List.flatten (List.map_congr_left fun k hk=>?_)
  have:=hw n h0 h1 k hk
  exact Qd8 hw _ _ k false this.1 (by omega) (by omega) (by omega)
 rw[this]
def Q81 (kd:Int→Int)(tx:Int→List AV)(p0 p1:Int→AV)(n0 f0 k0:Int→Int)(u0:Int→AV)(ok:Int→Bool)(sp:Int→List AV)(nx:Int→Int):Nat→List AV→List Ob→Option (AV×List Ob):=fun g args _=>match g,args with
 |9,[.agg [_,.val (.int .i64 n),_,_,_]]=>some (.val (.int .i64 (kd n)),[])
 |18,[.agg [_,.val (.int .i64 n),_,_,_]]=>some (.slc 1 (tx n),[])
 |19,[.agg _,.val (.int .i64 k)]=>some (.tup [.agg [.opt (p0 k),.val (.int .i64 (n0 k)),.val (.int .i64 (f0 k)),.val (.int .i64 (k0 k)),.opt (u0 k)],.val (.bool (ok k))],[])
 |20,[.agg [_,_,_,.val (.int .i64 k),_]]=>some (.tup [.agg [.opt (p0 (nx k)),.val (.int .i64 (n0 (nx k))),.val (.int .i64 (f0 (nx k))),.val (.int .i64 (k0 (nx k))),.opt (u0 (nx k))],.val (.bool (ok (nx k)))],[])
 |7,[.agg [_,.val (.int .i64 n),_,_,_],.val (.bool false)]=>some (.slc 3 (sp n),[])
 |_,_=>none
def spA (l:List Node)(n:Int):List AV:=Q2X (spV l n false)
def nxt (k:Int):Int:=k+1
def Qme:OT:=.then [0] (.fork (.of [1,2,3,4,5,6]) (.of [2,1,3,4,5,6]))
end Go.Proofs.YthbjpdijafccjaaGreat
namespace Go.Proofs.YthbjpdijafccjaaGreat
open Go.RowKit Go.Lib
theorem CurB.pr {l:List Node}{b:List UInt8}{C:Nat}{c:Cur}(ha:Ar l)(hl:l.length≤1000000000)(hb:b.length≤1000000)(hC:C≤1000000)(h:CurB l b C c):PrOk l c.n:=by
 refine⟨hl,ha.wf,ha.wide,h.1.h0,h.1.h1,?_,by have:=h.1.co;omega⟩
 obtain⟨pre,post,e1,_⟩:=h.2
 have:=congrArg List.length e1
 simp only[List.length_append] at this
 omega
def Q61 (kind:Int)(b:List UInt8):List Int:=(Q5F kind b).map Itm.r
theorem Q8y (l:List UInt8)(h:(Qm l).1≠-1):0<Qw (Qm l).1:=by
 have h':¬ ((decodeL l).1=65533∧(decodeL l).2=1):=fun hh=>h (by rw[Qm,if_pos hh])
 rw[Qm,if_neg h']
 show 0<Qw ((decodeL l).1:Int)
 clear h
 rw[decodeL_N] at h' ⊢
 have k0:=(l.getD 0 0).toNat_lt
 have k1:=(l.getD 1 0).toNat_lt
 have k2:=(l.getD 2 0).toNat_lt
 have k3:=(l.getD 3 0).toNat_lt
 rcases decodeN_shape l.length (l.getD 0 0).toNat (l.getD 1 0).toNat (l.getD 2 0).toNat (l.getD 3 0).toNat with ⟨c,e⟩|⟨c1,c2,c3,cv,e⟩|⟨c1,c2,c3,c4,cv,cs,e⟩|⟨c1,c2,c3,c4,c5,cv,cw,e⟩|e
 all_goals (rw[e] at h' ⊢;dsimp only at h' ⊢)
 all_goals (try (exact absurd ⟨rfl,rfl⟩ h'))
 all_goals (unfold Qw;repeat' split)
 all_goals omega
theorem QdR (l:List UInt8)(n:Nat)(hne:l≠[])(hn:(Qm l).2≤n):Qm (l.take n)=Qm l:=by
 by_cases h:(Qm l).1=-1
 ·have h2:Qm l=(-1,1):=by
   unfold Qm at h ⊢
   split
   ·rfl
   ·rename_i h3
    rw[if_neg h3] at h
    simp only at h
    omega
  have h1:1≤n:=by rw[h2] at hn;exact hn
  have hne2:l.take n≠[]:=by
   intro h3
   rcases List.take_eq_nil_iff.1 h3 with h3|h3
   ·omega
   ·exact hne h3
  by_cases h3:(Qm (l.take n)).1=-1
  ·rw[h2]
   unfold Qm at h3 ⊢
   split
   ·rfl
   ·rename_i h4
    rw[if_neg h4] at h3
    simp only at h3
    omega
  ·have g:=Q4R _ hne2 h3
   have hle:=Q5w _ hne2
   refine absurd ⟨l.drop (Qm (l.take n)).2,?_⟩ (QdQ l h _ (Q8y _ h3))
   rw[←g,List.take_take,Nat.min_eq_left (by rw[List.length_take] at hle;omega),List.take_append_drop]
 ·have g:=Q4R _ hne h
  have hw:=Q8y _ h
  have e:l.take n=encodeRune (Qm l).1++(l.drop (Qm l).2).take (n-(Qm l).2):=by
   rw[←g,←List.drop_take]
   conv=>lhs;rw[←List.take_append_drop (Qm l).2 (l.take n),List.take_take,Nat.min_eq_left hn]
  have e2:l=encodeRune (Qm l).1++l.drop (Qm l).2:=by rw[←g,List.take_append_drop]
  rw[e,Q3P _ hw]
  conv=>rhs;rw[e2,Q3P _ hw]
theorem Q8j (big:Bool)(x y:UInt8):(Q1c big [x,y]).2=2:=by
 unfold Q1c;simp only;split<;>rfl
theorem QfT (big:Bool)(l:List UInt8)(n:Nat)(hne:l≠[])(h:(Q1c big l).2≤n):Q1c big (l.take n)=Q1c big l:=by
 match l,hne with
 | [x],_ =>
  have h:(1:Int)≤n:=h
  rw[List.take_of_length_le (by simp;omega)]
 | [x,y],_ =>
  rw[Q8j] at h
  rw[List.take_of_length_le (by simp;omega)]
 | [x,y,z],_ =>
  have e:Q1c big [x,y,z]=Q1c big [x,y]:=rfl
  rw[e,Q8j] at h
  by_cases h2:n=2
  ·subst h2;rfl
  ·rw[List.take_of_length_le (by simp;omega)]
 |x::y::x2::y2::r,_ =>
  have e:Q1c big (x::y::x2::y2::r)=if (55296≤Q18 big x y∧Q18 big x y<56320)∧(56320≤Q18 big x2 y2∧Q18 big x2 y2<57344) then (65536+(Q18 big x y-55296) * 1024+(Q18 big x2 y2-56320),4) else Q1c big [x,y]:=rfl
  by_cases hC:(55296≤Q18 big x y∧Q18 big x y<56320)∧(56320≤Q18 big x2 y2∧Q18 big x2 y2<57344)
  ·rw[e,if_pos hC] at h ⊢
   have h:(4:Int)≤n:=h
   obtain⟨m,rfl⟩:∃ m,n=m+4:=⟨n-4,by omega⟩
   show Q1c big (x::y::x2::y2::r.take m)=_
   exact if_pos hC
  ·rw[e,if_neg hC] at h ⊢
   rw[Q8j] at h
   by_cases h2:n=2
   ·subst h2;rfl
   ·by_cases h3:n=3
    ·subst h3;rfl
    ·obtain⟨m,rfl⟩:∃ m,n=m+4:=⟨n-4,by omega⟩
     show Q1c big (x::y::x2::y2::r.take m)=_
     exact if_neg hC
def Q2f (kind:Int)(l:List UInt8):Int×Nat:=if kind=0 then Qm l else ((Q1c (decide (kind=1)) l).1,(Q1c (decide (kind=1)) l).2.toNat)
theorem Q7V (kind:Int)(l:List UInt8)(hne:l≠[]):1≤(Q2f kind l).2∧(Q2f kind l).2≤l.length:=by
 unfold Q2f
 split
 ·exact⟨Q4C l,Q5w l hne⟩
 ·have:=Q6E (decide (kind=1)) l hne
  simp only
  omega
theorem QfS (kind:Int)(l:List UInt8)(n:Nat)(hne:l≠[])(h:(Q2f kind l).2≤n):Q2f kind (l.take n)=Q2f kind l:=by
 unfold Q2f at h ⊢
 split
 ·rename_i hk
  rw[if_pos hk] at h
  exact QdR l n hne h
 ·rename_i hk
  rw[if_neg hk] at h
  simp only at h
  rw[QfT _ l n hne (by omega)]
def QdO (kind:Int)(n off:Nat)(l:List UInt8):List Itm:=if kind=0 then (Q1S n off l).map Q9s else if kind=1 then Q1o true off l else if kind=2 then Q1o false off l else []
theorem Q7E (kind:Int)(n off:Nat):QdO kind n off []=[]:=by
 unfold QdO
 rw[Q2p,Q1o,dif_pos rfl,Q1o,dif_pos rfl]
 simp
theorem QaN (big:Bool)(off:Nat){l:List UInt8}(hne:l≠[]):Q1o big off l=⟨(Q1c big l).1,(off:Int),((Q1c big l).2.toNat:Int)⟩::Q1o big ((off+(Q1c big l).2.toNat:Nat):Int) (l.drop (Q1c big l).2.toNat):=by
 have:=Q6E big l hne
 have e1:((Q1c big l).2.toNat:Int)=(Q1c big l).2:=Int.toNat_of_nonneg (by omega)
 have e2:((off+(Q1c big l).2.toNat:Nat):Int)=(off:Int)+(Q1c big l).2:=by rw[Int.natCast_add,e1]
 rw[e2,e1]
 conv=>lhs;rw[Q1o,dif_neg hne]
theorem Qbf {kind:Int}(hk:kind=0∨kind=1∨kind=2){l:List UInt8}(hne:l≠[])(n off:Nat):QdO kind (n+1) off l=⟨(Q2f kind l).1,off,(Q2f kind l).2⟩::QdO kind n (off+(Q2f kind l).2) (l.drop (Q2f kind l).2):=by
 rcases hk with rfl|rfl|rfl
 ·obtain⟨b,t,rfl⟩:=List.exists_cons_of_ne_nil hne
  rfl
 ·exact QaN true off hne
 ·exact QaN false off hne
def wdK (kind:Int):Nat→List UInt8→Nat
 |0,_=>0
 |j+1,l=>if l=[] then 0 else (Q2f kind l).2+wdK kind j (l.drop (Q2f kind l).2)
def rnK (kind:Int):Nat→List UInt8→List Int
 |0,_=>[]
 |n+1,l=>if l=[] then [] else (Q2f kind l).1::rnK kind n (l.drop (Q2f kind l).2)
theorem Q7I (kind:Int)(j:Nat):wdK kind j []=0:=by cases j<;>rfl
theorem Q4Q (kind:Int)(n:Nat):rnK kind n []=[]:=by cases n<;>rfl
theorem Qju {kind:Int}(hk:kind=0∨kind=1∨kind=2):∀ (n off:Nat) (l:List UInt8),l.length≤n→(QdO kind n off l).map Itm.r=rnK kind n l
 |0,off,l,h=>by
  obtain rfl:l=[]:=List.eq_nil_of_length_eq_zero (by omega)
  rw[Q7E];rfl
 |n+1,off,l,h=>by
  by_cases hne:l=[]
  ·subst hne
   rw[Q7E];rfl
  ·have hs:=Q7V kind l hne
   rw[Qbf hk hne,rnK,if_neg hne,List.map_cons,Qju hk n _ _ (by rw[List.length_drop];omega)]
theorem Qdb {kind:Int}(hk:kind=0∨kind=1∨kind=2):∀ (n off:Nat) (l:List UInt8),l.length≤n→∀ j,j≤(QdO kind n off l).length→((QdO kind n off l).map Itm.off++[((off+l.length:Nat):Int)])[j]?=some ((off+wdK kind j l:Nat):Int)
 |0,off,l,h,j,hj=>by
  obtain rfl:l=[]:=List.eq_nil_of_length_eq_zero (by omega)
  rw[Q7E] at hj ⊢
  obtain rfl:j=0:=by simpa using hj
  rfl
 |n+1,off,l,h,j,hj=>by
  by_cases hne:l=[]
  ·subst hne
   rw[Q7E] at hj ⊢
   obtain rfl:j=0:=by simpa using hj
   rfl
  ·have hs:=Q7V kind l hne
   rw[Qbf hk hne] at hj ⊢
   cases j with
   |zero=>rfl
   |succ j =>
    have ih:=Qdb hk n (off+(Q2f kind l).2) (l.drop (Q2f kind l).2) (by rw[List.length_drop];omega) j (by simpa using hj)
    rw[List.length_drop,show off+(Q2f kind l).2+(l.length-(Q2f kind l).2)=off+l.length by omega] at ih
    rw[wdK,if_neg hne,←Nat.add_assoc,←ih]
    rfl
theorem Q9h (kind:Int):∀ (n m:Nat) (l:List UInt8),l.length≤n→l.length≤m→rnK kind n l=rnK kind m l
 |0,m,l,h,_=>by
  obtain rfl:l=[]:=List.eq_nil_of_length_eq_zero (by omega)
  rw[Q4Q,Q4Q]
 |n+1,0,l,_,h=>by
  obtain rfl:l=[]:=List.eq_nil_of_length_eq_zero (by omega)
  rw[Q4Q,Q4Q]
 |n+1,m+1,l,h1,h2=>by
  by_cases hne:l=[]
  ·subst hne;rfl
  ·have hs:=Q7V kind l hne
   rw[rnK,rnK,if_neg hne,if_neg hne,Q9h kind n m _ (by rw[List.length_drop];omega) (by rw[List.length_drop];omega)]
theorem QdH (kind:Int):∀ (n j:Nat) (l:List UInt8),l.length≤n→rnK kind n (l.take (wdK kind j l))=(rnK kind n l).take j
 |0,j,l,h=>by
  obtain rfl:l=[]:=List.eq_nil_of_length_eq_zero (by omega)
  rw[Q7I];simp[rnK]
 |n+1,j,l,h=>by
  by_cases hne:l=[]
  ·subst hne
   rw[Q7I,Q4Q];simp[Q4Q]
  ·have hs:=Q7V kind l hne
   cases j with
   |zero=>rfl
   |succ j =>
    have ih:=QdH kind n j (l.drop (Q2f kind l).2) (by rw[List.length_drop];omega)
    rw[wdK,if_neg hne]
    have hne2:l.take ((Q2f kind l).2+wdK kind j (l.drop (Q2f kind l).2))≠[]:=by
     intro h3
     rcases List.take_eq_nil_iff.1 h3 with h3|h3
     ·omega
     ·exact hne h3
    rw[rnK,if_neg hne2,QfS kind l _ hne (by omega),List.drop_take,show (Q2f kind l).2+wdK kind j (l.drop (Q2f kind l).2)-(Q2f kind l).2=wdK kind j (l.drop (Q2f kind l).2) by omega,ih,rnK,if_neg hne]
    rfl
theorem Qdk (kind:Int):∀ (n j:Nat) (l:List UInt8),l.length≤n→rnK kind n (l.drop (wdK kind j l))=(rnK kind n l).drop j
 |0,j,l,h=>by
  obtain rfl:l=[]:=List.eq_nil_of_length_eq_zero (by omega)
  rw[Q7I];simp[rnK]
 |n+1,j,l,h=>by
  by_cases hne:l=[]
  ·subst hne
   rw[Q7I,Q4Q];simp[Q4Q]
  ·have hs:=Q7V kind l hne
   cases j with
   |zero=>rfl
   |succ j =>
    have ih:=Qdk kind n j (l.drop (Q2f kind l).2) (by rw[List.length_drop];omega)
    rw[wdK,if_neg hne,←List.drop_drop,Q9h kind (n+1) n _ (by rw[List.length_drop,List.length_drop];omega) (by rw[List.length_drop,List.length_drop];omega),ih]
    conv=>rhs;rw[rnK,if_neg hne]
    rfl
theorem Qf2 (kind:Int):∀ (f g:Nat) (l:List UInt8),wdK kind (f+g) l=wdK kind f l+wdK kind g (l.drop (wdK kind f l))
 |0,g,l=>by rw[Nat.zero_add];show _=0+wdK kind g (l.drop 0);rw[Nat.zero_add,List.drop_zero]
 |f+1,g,l=>by
  by_cases hne:l=[]
  ·subst hne;simp[Q7I]
  ·rw[show f+1+g=(f+g)+1 by omega,wdK,if_neg hne,wdK,if_neg hne,Qf2 kind f g,List.drop_drop]
   omega
theorem QaU {kind:Int}(hk:kind=0∨kind=1∨kind=2)(l:List UInt8):Q61 kind l=rnK kind l.length l:=Qju hk l.length 0 l (Nat.le_refl _)
theorem QeN (b:List UInt8){j:Nat}(hj:j≤(Qd b).r.length):Q1x (Qd b) j=((QQ b).2.toNat+wdK (QQ b).1 j (b.drop (QQ b).2.toNat):Nat):=by
 have hb:=Q48 b
 have hj2:j≤(Q2H b).length:=by
  have:(Qd b).r.length=(Q2H b).length:=List.length_map _
  omega
 have h:=Qdb (Q5t b) (b.drop (QQ b).2.toNat).length 0 (b.drop (QQ b).2.toNat) (Nat.le_refl _) j hj2
 have h:((Q2H b).map Itm.off++[((0+(b.drop (QQ b).2.toNat).length:Nat):Int)])[j]?=some ((0+wdK (QQ b).1 j (b.drop (QQ b).2.toNat):Nat):Int):=h
 rw[Nat.zero_add,Nat.zero_add,List.length_drop,show ((b.length-(QQ b).2.toNat:Nat):Int)=(b.length:Int)-(QQ b).2 by omega] at h
 show ((Qd b).off[(j:Int).toNat]?.getD 0:Int)=_
 rw[QcL,Int.toNat_natCast,List.getElem?_map,h]
 show (_+_:Int)=_
 rw[Int.natCast_add,Int.toNat_of_nonneg hb.1,Int.add_comm]
theorem Qdr (b:List UInt8){f u:Int}(h0:0≤f)(h1:f≤u)(h2:u≤(Qd b).r.length):Q61 (Qd b).kind (Q13 (Qd b) b f u)=((Qd b).r.drop f.toNat).take (u-f).toNat:=by
 obtain⟨i,rfl⟩:=Int.eq_ofNat_of_zero_le h0
 obtain⟨g,rfl⟩:∃ g:Nat,u=((i+g:Nat):Int):=⟨(u-i).toNat,by omega⟩
 obtain⟨c,hc⟩:=exq (b.drop (QQ b).2.toNat)
 have e1:((Qd b).off[(i:Int).toNat]?.getD 0:Int)=_:=QeN b (j:=i) (by omega)
 have e2:((Qd b).off[((i+g:Nat):Int).toNat]?.getD 0:Int)=_:=QeN b (j:=i+g) (by omega)
 have hr:(Qd b).r=rnK (QQ b).1 c.length c:=by rw[hc];exact QaU (Q5t b) _
 have hs:Q13 (Qd b) b i ((i+g:Nat):Int)=(c.drop (wdK (QQ b).1 i c)).take (wdK (QQ b).1 g (c.drop (wdK (QQ b).1 i c))):=by
  unfold Q13
  rw[e1,e2,←hc,Int.toNat_natCast,Qf2,←List.drop_drop,←hc]
  congr 1
  omega
 rw[hs,hr,show (((i+g:Nat):Int)-(i:Int)).toNat=g by omega,Int.toNat_natCast]
 show Q61 (QQ b).1 _=_
 rw[QaU (Q5t b),Q9h _ _ c.length _ (Nat.le_refl _) (by rw[List.length_take,List.length_drop];omega),QdH _ _ _ _ (by rw[List.length_drop];omega),Qdk _ _ _ _ (Nat.le_refl _)]
def shP (d:Int)(x:TPart):TPart:=⟨x.kind,x.from_+d,x.to+d⟩
theorem Q28 {r:List Int}(h:r≠[])(a:Int)(first:Bool):QD a first r=⟨(Qp r first).1,a,a+(Qp r first).2⟩::QD (a+(Qp r first).2) false (r.drop (Qp r first).2.toNat):=by
 conv=>lhs;rw[QD,dif_neg h]
theorem Q9x (d:Int):∀ (n:Nat) (r:List Int) (a:Int) (first:Bool),r.length≤n→QD (a+d) first r=(QD a first r).map (shP d)
 |0,r,a,first,h=>by
  obtain rfl:r=[]:=List.eq_nil_of_length_eq_zero (by omega)
  rw[QD,dif_pos rfl,QD,dif_pos rfl];rfl
 |n+1,r,a,first,h=>by
  by_cases hr:r=[]
  ·rw[QD,dif_pos hr,QD,dif_pos hr];rfl
  ·have hn:=Q39 r first hr
   have ih:=Q9x d n (r.drop (Qp r first).2.toNat) (a+(Qp r first).2) false (by rw[List.length_drop];omega)
   rw[Q28 hr,Q28 hr,List.map_cons,←ih,shP,show a+d+(Qp r first).2=a+(Qp r first).2+d by omega]
theorem QhJ (d:Int)(ps:List TPart)(a:Nat)(ks:List Int):QM (ps.map (shP d)) a ks=QM ps a ks:=by
 unfold QM
 rw[←List.map_drop,←List.map_take,List.map_map]
 rfl
theorem Q7U (ps:List TPart):(Q1j ps).name=if QM ps 0 [1,2]=true then ps[1]?.getD Ql else Ql:=by
 unfold Q1j
 split
 ·simp only
  split
  ·rfl
  ·rfl
 ·rfl
def Q6g (r:List Int):List Int:=Qo ⟨0,0,r,[]⟩ 0 r.length
theorem Q78 (t:Txt){f u:Int}(h0:0≤f)(h1:f≤u)(h2:u≤t.r.length):Q6g ((t.r.drop f.toNat).take (u-f).toNat)=Qo t f u:=by
 obtain⟨s,hs⟩:=exq ((t.r.drop f.toNat).take (u-f).toNat)
 have hsl:(s.length:Int)=u-f:=by rw[hs,List.length_take,List.length_drop];omega
 have hs2:(t.r.take u.toNat).drop f.toNat=s:=by rw[hs,List.drop_take];congr 1;omega
 have e1:QU s 0 s.length=QD 0 true s:=by
  unfold QU
  rw[Int.toNat_natCast,List.take_length];rfl
 have e2:QU t.r f u=(QD 0 true s).map (shP f):=by
  unfold QU
  rw[hs2]
  have:=Q9x f s.length s 0 true (Nat.le_refl _)
  rw[Int.zero_add] at this
  exact this
 rw[←hs]
 unfold Q6g Qo QR
 rw[e1,e2,Q7U,Q7U,QhJ]
 obtain⟨ps,hps⟩:=exq (QD 0 true s)
 rw[←hps]
 split
 ·rename_i ht
  have hl:=((Q2U (Nat.zero_le _)).1 ht).1
  have hl:2≤ps.length:=by simpa using hl
  have hin:∀ x∈ps,_:=fun x hx=>Q7l s s.length s 0 true (Nat.le_refl _) x (by rw[←hps];exact hx)
  rw[List.getElem?_map,List.getElem?_eq_getElem (show 1<ps.length by omega)]
  have hp:=hin ps[1] (List.getElem_mem _)
  show (s.drop ps[1].from_.toNat).take (ps[1].to-ps[1].from_).toNat=(t.r.drop (ps[1].from_+f).toNat).take ((ps[1].to+f)-(ps[1].from_+f)).toNat
  rw[hs,List.drop_take,List.drop_drop,List.take_take,show (ps[1].from_+f).toNat=f.toNat+ps[1].from_.toNat by omega,show min (ps[1].to-ps[1].from_).toNat ((u-f).toNat-ps[1].from_.toNat)=((ps[1].to+f)-(ps[1].from_+f)).toNat by omega]
 ·rfl
theorem QeE {r:Int}(h:Qn r=true):0<Qw r:=by
 have key:∀ x∈startSp,0≤x.1∧x.2≤1114111∧(x.2<55296∨57343<x.1):=by decide
 obtain⟨x,hx,hr⟩:=List.any_eq_true.1 (show startSp.any (fun x=>decide (x.1≤r)&&decide (r≤x.2))=true from h)
 have hk:=key x hx
 simp only[Bool.and_eq_true,decide_eq_true_eq] at hr
 unfold Qw
 repeat' split
 all_goals omega
theorem QaV (t:Txt){f u:Int}(h0:0≤f)(h1:f≤u)(h2:u≤t.r.length)(hne:Qo t f u≠[]):f+2≤u∧∃ r0 rs,Qo t f u=r0::rs∧Qn r0=true:=by
 obtain⟨s,hs⟩:=exq ((t.r.drop f.toNat).take (u-f).toNat)
 have hsl:(s.length:Int)=u-f:=by rw[hs,List.length_take,List.length_drop];omega
 have hloc:=Q78 t h0 h1 h2
 rw[←hs] at hloc
 rw[←hloc] at hne ⊢
 have e1:QU s 0 s.length=QD 0 true s:=by
  unfold QU
  rw[Int.toNat_natCast,List.take_length];rfl
 have en:Q6g s=(s.drop (Q1j (QD 0 true s)).name.from_.toNat).take ((Q1j (QD 0 true s)).name.to-(Q1j (QD 0 true s)).name.from_).toNat:=by
  have e2:QR s 0 s.length=Q1j (QD 0 true s):=by rw[QR,e1]
  show (s.drop (QR s 0 s.length).name.from_.toNat).take ((QR s 0 s.length).name.to-(QR s 0 s.length).name.from_).toNat=_
  rw[e2]
 rw[Q7U] at en
 split at en
 ·rename_i ht
  have ht2:=(Q2U (Nat.zero_le _)).1 ht
  have hl:2≤(QD 0 true s).length:=by simpa using ht2.1
  have hk2:((QD 0 true s)[1]?.getD Ql).kind=2:=ht2.2 1 (by decide)
  have hs0:s≠[]:=by
   intro h
   rw[h,QD,dif_pos rfl] at hl
   simp at hl
  have hn0:=Q39 s true hs0
  rw[Q28 hs0] at hl hk2 en
  obtain⟨x,hx⟩:=exq (s.drop (Qp s true).2.toNat)
  rw[←hx] at hl hk2 en
  have hx0:x≠[]:=by
   intro h
   rw[h,QD,dif_pos rfl] at hl
   simp at hl
  have hn1:=Q39 x false hx0
  rw[Q28 hx0] at hk2 en
  have hk2:(Qp x false).1=2:=hk2
  have en:Q6g s=(s.drop (0+(Qp s true).2).toNat).take ((0+(Qp s true).2+(Qp x false).2)-(0+(Qp s true).2)).toNat:=en
  rw[show (0+(Qp s true).2).toNat=(Qp s true).2.toNat by omega,←hx,show ((0+(Qp s true).2+(Qp x false).2)-(0+(Qp s true).2)).toNat=(Qp x false).2.toNat by omega] at en
  have hxl:x.length=s.length-(Qp s true).2.toNat:=by rw[hx,List.length_drop]
  have hlead:0<Qg x 0:=by
   unfold Qp at hk2
   rw[if_neg (by simp),if_neg (by simp)] at hk2
   split at hk2
   ·simp at hk2
   ·split at hk2
    ·rename_i h;omega
    ·split at hk2
     ·simp at hk2
     ·split at hk2
      ·simp at hk2
      ·split at hk2<;>simp at hk2
  obtain⟨r0,rs,rfl⟩:=List.exists_cons_of_ne_nil hx0
  have hst:Qn r0=true:=by
   by_cases hq:Qn r0=true
   ·exact hq
   ·have:Qg (r0::rs) 0=0:=by show (if Qn r0 then _ else 0)=0;rw[if_neg hq]
    omega
  refine⟨by simp only[List.length_cons] at hxl;omega,r0,rs.take ((Qp (r0::rs) false).2.toNat-1),?_,hst⟩
  rw[en]
  obtain⟨q,hq⟩:∃ q,(Qp (r0::rs) false).2.toNat=q+1:=⟨_,(Nat.sub_add_cancel (by omega)).symm⟩
  rw[hq];rfl
 ·exact absurd en (by intro h;rw[h] at hne;exact hne rfl)
end Go.Proofs.YthbjpdijafccjaaGreat
namespace Go.Proofs.YthbjpdijafccjaaGreat
open Go.RowKit Go.Lib
def elM (l:List Node)(x:Node):Bool:=decide (x.kind=21)&&decide (Q19 l (x.kids.getLast?.getD (-1))=22)
def n01 (b:Bool):Nat:=if b then 1 else 0
def cmF (l:List Node):Nat→Int→Nat
 |0,_=>0
 |f+1,n=>n01 (elM l (Qj l n))+((Qj l n).kids.map (cmF l f)).sum
def cm (l:List Node)(n:Int):Nat:=cmF l (n.toNat+1) n
theorem Qcq {l:List Node}(hw:Wf l):∀ (f f':Nat) (n:Int),0≤n→n<l.length→n.toNat<f→n.toNat<f'→cmF l f n=cmF l f' n
 |0,_,_,_,_,h,_=>by omega
 |_+1,0,_,_,_,_,h=>by omega
 |f+1,f'+1,n,h0,h1,h2,h3=>by
  simp only[cmF]
  congr 2
  refine List.map_congr_left fun k hk=>?_
  have:=hw n h0 h1 k hk
  exact Qcq hw f f' k this.1 (by omega) (by omega) (by omega)
theorem QmQ {l:List Node}(hw:Wf l){n:Int}(h0:0≤n)(h1:n<l.length):cm l n=n01 (elM l (Qj l n))+((Qj l n).kids.map (cm l)).sum:=by
 show cmF l (n.toNat+1) n=_
 simp only[cmF]
 congr 2
 refine List.map_congr_left fun k hk=>?_
 have:=hw n h0 h1 k hk
 exact Qcq hw _ _ k this.1 (by omega) (by omega) (by omega)
theorem Q64 {l:List Node}{x:Node}{n:Int}(h0:0≤n)(h1:n<l.length):Q19 (l++[x]) n=Q19 l n:=by unfold Q19;rw[Q2s h0 h1]
theorem Q7y {l:List Node}{x:Node}:Q19 (l++[x]) l.length=x.kind:=by unfold Q19;rw[Q2a]
theorem QiL (l:List Node):Q19 l (-1)=0:=by unfold Q19;rw[Q5L (by omega)];rfl
theorem Qfo {l:List Node}{x:Node}(hx:InR l x.kids)(z:Node):elM (l++[z]) x=elM l x:=by
 unfold elM
 cases h:x.kids.getLast? with
 |none=>simp only[Option.getD_none,QiL]
 |some k =>
  have:=hx k (List.mem_of_getLast? h)
  simp only[Option.getD_some,Q64 this.1 this.2]
theorem Qfp {l:List Node}(h:Wf l)(x:Node):∀ (f:Nat) (n:Int),0≤n→n<l.length→cmF (l++[x]) f n=cmF l f n
 |0,_,_,_=>rfl
 |f+1,n,h0,h1=>by
  have hr:InR l (Qj l n).kids:=fun k hk=>by have:=h n h0 h1 k hk;omega
  simp only[cmF,Q2s h0 h1,Qfo hr]
  congr 2
  refine List.map_congr_left fun k hk=>?_
  have:=hr k hk
  exact Qfp h x f k this.1 this.2
theorem Qm9 {l:List Node}(h:Wf l)(x:Node){n:Int}(h0:0≤n)(h1:n<l.length):cm (l++[x]) n=cm l n:=Qfp h x _ n h0 h1
def cmL (l:List Node)(ks:List Int):Nat:=(ks.map (cm l)).sum
theorem Q6s {l:List Node}(h:Wf l)(x:Node){ks:List Int}(hk:InR l ks):cmL (l++[x]) ks=cmL l ks :=
 congrArg List.sum (List.map_congr_left fun k hk'=>Qm9 h x (hk k hk').1 (hk k hk').2)
theorem QhB {l:List Node}(h:Wf l){x:Node}(hx:InR l x.kids):cm (l++[x]) l.length=n01 (elM l x)+cmL l x.kids:=by
 rw[QmQ (Q9g h hx) (by omega) (by simp only[List.length_append,List.length_singleton];omega),Q2a,Qfo hx]
 exact congrArg (n01 (elM l x) + ·) (Q6s h x hx)
theorem Q8K (l:List Node)(a b:List Int):cmL l (a++b)=cmL l a+cmL l b:=by simp[cmL]
theorem Q8G (l:List Node)(k:Int):cmL l [k]=cm l k:=by simp[cmL]
def cmK (l:List Node)(s:List Opn):Nat:=(s.map fun x=>cmL l x.kids).sum
theorem Q6n (l:List Node)(s:List Opn)(x:Opn):cmK l (s++[x])=cmK l s+cmL l x.kids:=by simp[cmK]
theorem Q8I {l:List Node}(h:Wf l)(x:Node){s:List Opn}(hs:∀ y∈s,InR l y.kids):cmK (l++[x]) s=cmK l s :=
 congrArg List.sum (List.map_congr_left fun y hy=>Q6s h x (hs y hy))
theorem QiE (l:List Node){kind:Int}(hk:kind≠21)(bs:List UInt8):elM l (Qu kind bs)=false:=by
 unfold elM
 rw[decide_eq_false (show ¬ (Qu kind bs).kind=21 from hk)];rfl
theorem QkG (l:List Node)(kind:Int)(bs:List UInt8):InR l (Qu kind bs).kids:=fun k hk=>by cases hk
theorem Qbt {l:List Node}(h:Wf l){kind:Int}(hk:kind≠21)(bs:List UInt8):cm (l++[Qu kind bs]) l.length=0:=by
 rw[QhB h (QkG l kind bs),QiE l hk];rfl
def QlH (nm:List Int):Prop:=∃ r0 rs,nm=r0::rs∧Qn r0=true
def nmN (K:Int)(l:List Node)(n:Int):List Int:=Q6g (Q61 K (pr l n))
structure StOk (K:Int) (l:List Node) (y:Opn) (k0:Int) (r:List Int):Prop where
 k:y.kids=k0::r
 s:Q19 l k0=8
 n:nmN K l k0=y.name
 l:QlH y.name
structure ElIs (K:Int) (l:List Node) (ks:List Int) (k0:Int) (r:List Int) (kl:Int):Prop where
 k:ks=k0::(r++[kl])
 s:Q19 l k0=8
 ld:QlH (nmN K l k0)
 e:Q19 l kl=22∨(Q19 l kl=10∧nmN K l kl=nmN K l k0)
def Qem (K:Int)(l:List Node)(n:Int):Prop:=Q19 l n=21→∃ k0 r kl,ElIs K l (Qj l n).kids k0 r kl
theorem QbD (K:Int){l:List Node}(h:Wf l)(x:Node){n:Int}(h0:0≤n)(h1:n<l.length):nmN K (l++[x]) n=nmN K l n:=by unfold nmN;rw[Q9r h x h0 h1]
theorem StOk.old {K:Int}{l:List Node}(h:Wf l){y:Opn}{k0:Int}{r:List Int}(hr:InR l y.kids)(hs:StOk K l y k0 r)(x:Node):StOk K (l++[x]) y k0 r:=by
 have:=hr k0 (by rw[hs.k];simp)
 exact⟨hs.k,by rw[Q64 this.1 this.2];exact hs.s,by rw[QbD K h x this.1 this.2];exact hs.n,hs.l⟩
theorem ElIs.old {K:Int}{l:List Node}(h:Wf l){ks:List Int}{k0:Int}{r:List Int}{kl:Int}(hr:InR l ks)(hs:ElIs K l ks k0 r kl)(x:Node):ElIs K (l++[x]) ks k0 r kl:=by
 have h1:=hr k0 (by rw[hs.k];simp)
 have h2:=hr kl (by rw[hs.k];simp)
 refine⟨hs.k,?_,?_,?_⟩
 ·rw[Q64 h1.1 h1.2];exact hs.s
 ·rw[QbD K h x h1.1 h1.2];exact hs.ld
 ·rw[Q64 h2.1 h2.2,QbD K h x h1.1 h1.2,QbD K h x h2.1 h2.2];exact hs.e
theorem QlJ {K:Int}{l:List Node}(h:Wf l){n:Int}(h0:0≤n)(h1:n<l.length)(he:Qem K l n)(x:Node):Qem K (l++[x]) n:=fun hk=>by
 rw[Q64 h0 h1] at hk
 obtain⟨k0,r,kl,hs⟩:=he hk
 rw[Q2s h0 h1]
 exact⟨k0,r,kl,hs.old h (fun k hk=>by have:=h n h0 h1 k hk;omega) x⟩
theorem Qc1 {K:Int}{l:List Node}(h:Wf l)(he:∀ n:Int,0≤n→n<l.length→Qem K l n){x:Node}(hx:Qem K (l++[x]) l.length):∀ n:Int,0≤n→n<(l++[x]).length→Qem K (l++[x]) n:=fun n h0 h1=>by
 simp only[List.length_append,List.length_singleton] at h1
 by_cases h2:n<l.length
 ·exact QlJ h h0 h2 (he n h0 h2) x
 ·obtain rfl:n=l.length:=by omega
  exact hx
theorem Qez {K:Int}{l:List Node}{x:Node}(hk:x.kind≠21):Qem K (l++[x]) l.length:=fun h=>by
 rw[Q7y] at h;exact absurd h hk
theorem Q36 {s:List Opn}{x z:Opn}:z∈(s++[x]).drop 1↔z∈s.drop 1∨(s≠[]∧z=x):=by
 cases s<;>simp
structure CIn (K:Int) (m:Mk) (c:Nat):Prop where
 el:∀ n:Int,0≤n→n<m.n.length→Qem K m.n n
 st:∀ y∈m.s.drop 1,∃ k0 r,StOk K m.n y k0 r
 cm:cmK m.n m.s=c
section
variable {K:Int} {m:Mk} {X:List UInt8} {B D c:Nat}
theorem CIn.wrong (h:CIn K m c)(t:Txt)(d f u:Int):CIn K (QP t d f u m) c:=⟨h.el,h.st,h.cm⟩
theorem CIn.leaf (h:MkInv m X B D)(hc:CIn K m c){kind:Int}(hk:kind≠21)(bs:List UInt8):CIn K (Q2N m.n.length (Q1J (Qu kind bs) m)) c:=by
 obtain⟨s0,hs0⟩:=Q25 h.s1
 generalize QO m.s=y at hs0
 have hr:=h.rng
 have hst:=hc.st
 have hcm:=hc.cm
 rw[hs0] at hr hst hcm
 have hr0:∀ z∈s0,InR m.n z.kids:=fun z hz=>hr z (List.mem_append_left _ hz)
 have hry:InR m.n y.kids:=hr y (by simp)
 refine⟨?_,?_,?_⟩
 ·exact Qc1 h.ar.wf hc.el (Qez hk)
 ·show ∀ z∈(Q1K m.n.length m.s).drop 1,∃ k0 r,StOk K (m.n++[Qu kind bs]) z k0 r
  rw[hs0,Q1T]
  intro z hz
  rcases Q36.1 hz with hz|⟨hne,rfl⟩
  ·obtain⟨k0,r,hs⟩:=hst z (Q36.2 (.inl hz))
   exact⟨k0,r,hs.old h.ar.wf (hr0 z (List.mem_of_mem_drop hz)) _⟩
  ·obtain⟨k0,r,hs⟩:=hst y (Q36.2 (.inr ⟨hne,rfl⟩))
   have hs:=hs.old h.ar.wf hry (Qu kind bs)
   exact⟨k0,r++[(m.n.length:Int)],by show y.kids++_=_;rw[hs.k];rfl,hs.s,hs.n,hs.l⟩
 ·show cmK (m.n++[Qu kind bs]) (Q1K m.n.length m.s)=c
  rw[Q6n] at hcm
  rw[hs0,Q1T,Q6n,Q8K,Q8G,Q8I h.ar.wf _ hr0,Q6s h.ar.wf _ hry,Qbt h.ar.wf hk]
  exact hcm
theorem CIn.push (h:MkInv m X B D)(hc:CIn K m c)(bs:List UInt8){nm:List Int}(hn:Q6g (Q61 K bs)=nm)(hl:QlH nm):CIn K (Q2N m.n.length (Q1J (Qu 8 bs) { m with s:=m.s++[⟨nm,[]⟩] })) c:=by
 have ha:=(Q3w h.ar 8 bs)
 have hks:∀ z∈m.s,InR m.n z.kids:=h.rng
 refine⟨?_,?_,?_⟩
 ·exact Qc1 h.ar.wf hc.el (Qez (by show (8:Int)≠21;decide))
 ·show ∀ z∈(Q1K m.n.length (m.s++[⟨nm,[]⟩])).drop 1,∃ k0 r,StOk K (m.n++[Qu 8 bs]) z k0 r
  rw[Q1T]
  intro z hz
  rcases Q36.1 hz with hz|⟨hne,rfl⟩
  ·obtain⟨k0,r,hs⟩:=hc.st z hz
   exact⟨k0,r,hs.old h.ar.wf (hks z (List.mem_of_mem_drop hz)) _⟩
  ·refine⟨m.n.length,[],rfl,Q7y,?_,hl⟩
   unfold nmN
   rw[ha.2];exact hn
 ·show cmK (m.n++[Qu 8 bs]) (Q1K m.n.length (m.s++[⟨nm,[]⟩]))=c
  rw[Q1T,Q6n,Q8K,Q8G,Q8I h.ar.wf _ hks,Qbt h.ar.wf (by decide)]
  exact hc.cm
theorem QbL {s0:List Opn}{y x:Opn}(hs1:m.s=s0++[y]++[x])(kind:Int)(bs:List UInt8) :
  (Q1I m.n.length (Q1J (Qu kind bs) m)).n=(m.n++[Qu kind bs])++[Q1e (m.n++[Qu kind bs]) 21 (x.kids++[(m.n.length:Int)])]∧(Q1I m.n.length (Q1J (Qu kind bs) m)).s=s0++[⟨y.name,y.kids++[((m.n++[Qu kind bs]).length:Int)]⟩]:=by
 have eT:QO (Q2N (m.n.length:Int) (Q1J (Qu kind bs) m)).s=⟨x.name,x.kids++[(m.n.length:Int)]⟩:=by
  show QO (Q1K m.n.length m.s)=_
  rw[hs1,Q1T,Q7A]
 constructor
 ·show (m.n++[Qu kind bs])++[Q1e (m.n++[Qu kind bs]) 21 (QO (Q2N (m.n.length:Int) (Q1J (Qu kind bs) m)).s).kids]=_
  rw[eT]
 ·show Q1K ((m.n++[Qu kind bs]).length:Int) ((Q1K m.n.length m.s).take ((Q1K m.n.length m.s).length-1))=_
  have e2:(Q1K m.n.length m.s).take ((Q1K m.n.length m.s).length-1)=s0++[y]:=by
   rw[hs1,Q1T,show (s0++[y]++[(⟨x.name,x.kids++[(m.n.length:Int)]⟩:Opn)]).length-1=(s0++[y]).length by simp]
   exact List.take_left
  rw[e2,Q1T]
theorem Q8c {s:List Opn}(hs:2≤s.length):∃ s0 y,s=s0++[y]++[QO s]:=by
 obtain⟨s1,hs1⟩:=Q25 (s:=s) (by omega)
 have hl1:1≤s1.length:=by rw[hs1] at hs;simp at hs;omega
 obtain⟨s0,hs0⟩:=Q25 hl1
 exact⟨s0,QO s1,by rw[←hs0];exact hs1⟩
theorem CIn.shut (h:MkInv m X B D)(hc:CIn K m c)(hs:2≤m.s.length){kind:Int}(bs:List UInt8)(hk:kind=22∨(kind=10∧Q6g (Q61 K bs)=(QO m.s).name)):CIn K (Q1I m.n.length (Q1J (Qu kind bs) m)) (c+n01 (decide (kind=22))):=by
 obtain⟨s0,y,hs1⟩:=Q8c hs
 generalize QO m.s=x at hs1 hk
 obtain⟨en,es⟩:=QbL hs1 kind bs
 have hk21:kind≠21:=by omega
 obtain⟨ha1,hp1⟩:=Q3w h.ar kind bs
 have hr:=h.rng
 have hst:=hc.st
 have hcm:=hc.cm
 rw[hs1] at hr hst hcm
 have hr0:∀ z∈s0,InR m.n z.kids:=fun z hz=>hr z (List.mem_append_left _ (List.mem_append_left _ hz))
 have hry:InR m.n y.kids:=hr y (List.mem_append_left _ (by simp))
 have hrx:InR m.n x.kids:=hr x (by simp)
 have hks:InR (m.n++[Qu kind bs]) (x.kids++[(m.n.length:Int)]):=fun k hk=>by
  rcases List.mem_append.1 hk with hk|hk
  ·exact hrx.more _ k hk
  ·obtain rfl:k=(m.n.length:Int):=by simpa using hk
   simp;omega
 obtain⟨k0,r,hx⟩:=hst x (Q36.2 (.inr ⟨by simp,rfl⟩))
 have hx1:=hx.old h.ar.wf hrx (Qu kind bs)
 obtain⟨l1,hl⟩:=exq (m.n++[Qu kind bs])
 have hl1:((m.n++[Qu kind bs]).length:Int)=l1.length:=by rw[hl]
 have hel1:=Qc1 h.ar.wf hc.el (x:=Qu kind bs) (Qez hk21)
 have hnew:Q19 (m.n++[Qu kind bs]) m.n.length=kind:=Q7y
 have hnmn:nmN K (m.n++[Qu kind bs]) m.n.length=Q6g (Q61 K bs):=by unfold nmN;rw[hp1]
 have up0:∀ z:Node,cmK (l1++[z]) s0=cmK m.n s0:=fun z=>by
  rw[Q8I (by rw[hl];exact ha1.wf) z (fun q hq=>by rw[hl];exact (hr0 q hq).more _),hl,Q8I h.ar.wf _ hr0]
 have upy:∀ z:Node,cmL (l1++[z]) y.kids=cmL m.n y.kids:=fun z=>by
  rw[Q6s (by rw[hl];exact ha1.wf) z (by rw[hl];exact hry.more _),hl,Q6s h.ar.wf _ hry]
 have e1:cmL l1 (x.kids++[(m.n.length:Int)])=cmL m.n x.kids:=by
  rw[hl,Q8K,Q8G,Q6s h.ar.wf _ hrx,Qbt h.ar.wf hk21];rfl
 rw[←hl] at ha1 hks hx1 hel1 en es hnew hnmn
 obtain⟨z,hz⟩:=exq (Q1e l1 21 (x.kids++[(m.n.length:Int)]))
 rw[←hz] at en
 have hzk:z.kids=x.kids++[(m.n.length:Int)]:=by rw[hz];rfl
 have hzm:elM l1 z=decide (kind=22):=by
  unfold elM
  rw[hzk,List.getLast?_concat,Option.getD_some,hnew,hz];rfl
 refine⟨?_,?_,?_⟩
 ·rw[en]
  refine Qc1 ha1.wf hel1 (fun _=>⟨k0,r,m.n.length,?_⟩)
  rw[Q2a,hzk]
  refine ElIs.old ha1.wf hks ⟨by rw[hx1.k];rfl,hx1.s,?_,?_⟩ z
  ·rw[hx1.n];exact hx1.l
  ·rw[hnew,hnmn,hx1.n];exact hk
 ·rw[en,es]
  intro q hq
  rcases Q36.1 hq with hq|⟨hne,rfl⟩
  ·obtain⟨q0,qr,hq1⟩:=hst q (Q36.2 (.inl (Q36.2 (.inl hq))))
   have hqr:=hr0 q (List.mem_of_mem_drop hq)
   have hq2:=hq1.old h.ar.wf hqr (Qu kind bs)
   rw[←hl] at hq2
   exact⟨q0,qr,hq2.old ha1.wf (by rw[hl];exact hqr.more _) z⟩
  ·obtain⟨q0,qr,hq1⟩:=hst y (Q36.2 (.inl (Q36.2 (.inr ⟨hne,rfl⟩))))
   have hq2:=hq1.old h.ar.wf hry (Qu kind bs)
   rw[←hl] at hq2
   have hq3:=hq2.old ha1.wf (by rw[hl];exact hry.more _) z
   exact⟨q0,qr++[(l1.length:Int)],by show y.kids++_=_;rw[hq3.k];rfl,hq3.s,hq3.n,hq3.l⟩
 ·rw[en,es,Q6n,Q8K,Q8G,up0,upy,QhB ha1.wf (by rw[hzk];exact hks),hzm,hzk,e1]
  rw[Q6n,Q6n] at hcm
  omega
def Qam (d:List Dg):Nat:=(d.filter fun x=>decide (x.c=4)).length
theorem QcM (d:List Dg)(x:Dg):Qam (d++[x])=Qam d+n01 (decide (x.c=4)):=by
 unfold Qam n01
 rw[List.filter_append,List.length_append]
 by_cases h:x.c=4<;>simp[h]
def sz (m:Mk):Nat:=m.n.length+2 * m.s.length
structure CI (K:Int) (m:Mk) (S:Nat):Prop where
 c:CIn K m (Qam m.d)
 z:2 * sz m≤S
theorem CI.wrong {S:Nat}(h:CI K m S)(t:Txt){d f u:Int}(hd:d≠4):CI K (QP t d f u m) S:=by
 refine⟨?_,h.z⟩
 have:Qam (QP t d f u m).d=Qam m.d:=by
  show Qam (m.d++[_])=_
  rw[QcM,decide_eq_false (show ¬ d=4 from hd)];rfl
 rw[this]
 exact h.c.wrong t d f u
theorem CI.lk {S:Nat}(h:MkI m X B D)(hc:CI K m S)(t:Txt)(b:List UInt8){kind:Int}(hk:kind≠21)(f u:Int):CI K (lkF t b kind f u m) (S+2):=by
 refine⟨hc.c.leaf h.i hk _,?_⟩
 have:=hc.z
 show 2 * ((m.n++[_]).length+2 * (Q1K _ m.s).length)≤_
 unfold sz at this
 rw[Q4A]
 simp only[List.length_append,List.length_singleton]
 omega
theorem Qf5 (last:Int)(hs:1≤m.s.length)(kind:Int)(bs:List UInt8):sz (Q1I last (Q1J (Qu kind bs) m))=sz m:=by
 have e1:(Q1I last (Q1J (Qu kind bs) m)).s.length=m.s.length-1:=by
  show (Q1K _ ((Q1K _ m.s).take ((Q1K _ m.s).length-1))).length=_
  rw[Q4A,List.length_take,Q4A];omega
 have e2:(Q1I last (Q1J (Qu kind bs) m)).n.length=m.n.length+2:=by
  show ((m.n++[_])++[_]).length=_
  simp
 unfold sz
 omega
theorem CI.miss {S:Nat}(h:MkI m X B D)(hc:CI K m S)(hs:2≤m.s.length)(t:Txt)(a:Int):CI K (Q2x t a m) S:=by
 refine⟨?_,?_⟩
 ·have h2:=CIn.shut (h.wrong t 4 a a).i (hc.c.wrong t 4 a a) hs (kind:=22) [] (.inl rfl)
  have:Qam (Q2x t a m).d=Qam m.d+1:=by
   show Qam (m.d++[_])=_
   rw[QcM];rfl
  rw[this]
  exact h2
 ·have:sz (Q2x t a m)=sz m:=Qf5 _ (by show 1≤m.s.length;omega) 22 []
  rw[this];exact hc.z
theorem Qea (t:Txt)(a:Int)(hs:2≤m.s.length):(Q2x t a m).s.map Opn.name <+: m.s.map Opn.name:=by
 obtain⟨s0,y,hs1⟩:=Q8c hs
 have e:=(QbL (m:=QP t 4 a a m) (s0:=s0) (y:=y) (x:=QO m.s) hs1 22 []).2
 have e:(Q2x t a m).s=_:=e
 rw[e,hs1]
 exact⟨[(QO m.s).name],by simp⟩
end
theorem CI.missGo {K:Int}(t:Txt)(f:Int)(k:Nat){X:List UInt8}{B D S:Nat}:∀ (n:Nat) (m:Mk),MkI m X B D→CI K m S→k+1≤m.s.length→m.s.length≤n+k+1→CI K (missGo t f k n m) S∧(Go.Proofs.YthbjpdijafccjaaGreat.missGo t f k n m).s.map Opn.name <+: m.s.map Opn.name
 |0,m,_,hc,_,_=>⟨hc,List.prefix_refl _⟩
 |n+1,m,h,hc,h1,h2=>by
  show CI K (if _ then _ else _) S∧(if _ then _ else _:Mk).s.map Opn.name <+: _
  split
  ·have h3:=Q4B h.i (by omega) t f
   have ih:=CI.missGo t f k n _ (h.miss (by omega) t f) (hc.miss h (by omega) t f) (by omega) (by omega)
   exact⟨ih.1,ih.2.trans (Qea t f (by omega))⟩
  ·exact⟨hc,List.prefix_refl _⟩
theorem Q7K (s:List Opn)(nm:List Int):∀ k,Q1F s nm k≠0→(s[Q1F s nm k]?.getD ⟨[],[]⟩).name=nm
 |0,h=>absurd rfl h
 |k+1,h=>by
  unfold Q1F at h ⊢
  split at h
  ·rename_i h1
   rw[if_pos h1];exact h1
  ·rename_i h1
   rw[if_neg h1];exact Q7K s nm k h
theorem Q8Z (b:List UInt8){f u:Int}(h0:0≤f)(h1:f≤u)(h2:u≤(Qd b).r.length):Q6g (Q61 (Qd b).kind (Q13 (Qd b) b f u))=Qo (Qd b) f u:=by
 rw[Qdr b h0 h1 h2,Q78 _ h0 h1 h2]
section
variable {m:Mk} {X:List UInt8} {B D S:Nat} {b:List UInt8} {f u:Int}
theorem CI.end_ (h:MkI m X B D)(hc:CI (Qd b).kind m S)(h0:0≤f)(h1:f≤u)(h2:u≤(Qd b).r.length):CI (Qd b).kind (Q2I (Qd b) b 10 f u m) (S+2):=by
 unfold Q2I
 have hs1:=h.i.s1
 have hle:=Q4D m.s (Qo (Qd b) f u) (m.s.length-1)
 simp only
 split
 ·exact CI.lk (h.wrong (Qd b) 3 f u) (hc.wrong (Qd b) (by decide)) (Qd b) b (by decide) f u
 ·rename_i hk0
  have hnm:=Q7K m.s (Qo (Qd b) f u) (m.s.length-1) hk0
  obtain⟨k,hk⟩:=exq (Q1F m.s (Qo (Qd b) f u) (m.s.length-1))
  rw[←hk] at hk0 hle hnm ⊢
  obtain⟨h3,h4⟩:=MkI.missGo (Qd b) f k m.s.length m h (by omega) (by omega)
  obtain⟨h5,tl,h6⟩:=CI.missGo (Qd b) f k m.s.length m h hc (by omega) (by omega)
  obtain⟨m1,hm1⟩:=exq (Go.Proofs.YthbjpdijafccjaaGreat.missGo (Qd b) f k m.s.length m)
  rw[←hm1] at h3 h4 h5 h6 ⊢
  have htop:(QO m1.s).name=Qo (Qd b) f u:=by
   rw[←hnm]
   have e1:(m.s.map Opn.name)[k]?=(m1.s.map Opn.name)[k]?:=by
    rw[←h6,List.getElem?_append_left (by rw[List.length_map];omega)]
   rw[List.getElem?_map,List.getElem?_map] at e1
   unfold QO
   rw[h4,Nat.add_sub_cancel]
   have hk1:k<m.s.length:=by omega
   have hk2:k<m1.s.length:=by omega
   rw[List.getElem?_eq_getElem hk1,List.getElem?_eq_getElem hk2] at e1 ⊢
   simp only[Option.map_some,Option.some.injEq] at e1
   exact e1.symm
  refine⟨?_,?_⟩
  ·have:=CIn.shut h3.i h5.c (by omega) (kind:=10) (Q13 (Qd b) b f u) (.inr ⟨rfl,by rw[Q8Z b h0 h1 h2,htop]⟩)
   exact this
  ·have e:sz (Q1I m1.n.length (Q29 (Qd b) b 10 f u m1))=sz m1:=Qf5 _ (by omega) 10 _
   rw[e]
   exact Nat.le_trans h5.z (by omega)
theorem CI.start (h:MkI m X B D)(hc:CI (Qd b).kind m S)(h0:0≤f)(h1:f≤u)(h2:u≤(Qd b).r.length)(hn:Qo (Qd b) f u≠[]):CI (Qd b).kind (Q1u (Qd b) b 8 f u m) (S+6):=by
 unfold Q1u
 split
 ·have:=CI.lk (h.wrong (Qd b) 5 f u) (hc.wrong (Qd b) (by decide)) (Qd b) b (kind:=8) (by decide) f u
  exact⟨this.c,Nat.le_trans this.z (by omega)⟩
 ·refine⟨hc.c.push h.i (Q13 (Qd b) b f u) (Q8Z b h0 h1 h2) (QaV _ h0 h1 h2 hn).2,?_⟩
  have:=hc.z
  show 2 * ((m.n++[_]).length+2 * (Q1K _ (m.s++[_])).length)≤_
  unfold sz at this
  rw[Q4A]
  simp only[List.length_append,List.length_singleton]
  omega
theorem CI.token (h:MkI m X B D)(hc:CI (Qd b).kind m S){kind:Int}(hk:kind≠21)(h0:0≤f)(h1:f<u)(h2:u≤(Qd b).r.length)(wh:Bool):CI (Qd b).kind (Q1Y (Qd b) b kind f u wh m) (S+3 * (u-f).toNat):=by
 unfold Q1Y
 simp only
 generalize hm1:(if wh=false then QP (Qd b) 1 f u m else if (kind=8∨kind=9∨kind=10)∧(QR (Qd b).r f u).right=false then QP (Qd b) 2 f u m else m)=m1
 have h3:∃ D',MkI m1 X B D':=by
  rw[←hm1]
  split
  ·exact⟨_,h.wrong (Qd b) 1 f u⟩
  ·split
   ·exact⟨_,h.wrong (Qd b) 2 f u⟩
   ·exact⟨_,h⟩
 have hc1:CI (Qd b).kind m1 S:=by
  rw[←hm1]
  split
  ·exact hc.wrong (Qd b) (by decide)
  ·split
   ·exact hc.wrong (Qd b) (by decide)
   ·exact hc
 obtain⟨D',h3⟩:=h3
 split
 ·rename_i hs
  obtain⟨_,rfl,hs⟩:=hs
  have hn:Qo (Qd b) f u≠[]:=List.length_pos_iff.1 hs
  have h4:=CI.start h3 hc1 h0 (by omega) h2 hn
  have h5:=(QaV _ h0 (by omega) h2 hn).1
  exact⟨h4.c,Nat.le_trans h4.z (by omega)⟩
 ·split
  ·rename_i hs
   obtain⟨_,rfl⟩:=hs
   have h4:=CI.end_ h3 hc1 h0 (by omega) h2
   exact⟨h4.c,Nat.le_trans h4.z (by omega)⟩
  ·have h4:=CI.lk h3 hc1 (Qd b) b hk f u
   exact⟨h4.c,Nat.le_trans h4.z (by omega)⟩
end
theorem Qgc (l:List Int)(k:Nat):(Q1h l k).1≠21:=by
 unfold Q1h
 repeat' split
 all_goals (intro h;simp at h)
theorem Q75 (l:List Int)(kd k skip:Nat)(bs:List UInt8):(Q17 l kd k skip bs).1=kd:=by unfold Q17;split<;>rfl
theorem Q8u (l:List Int)(k:Nat):(Qk l k).1≠21:=by
 unfold Qk
 split
 ·unfold Q1D
  split
  ·rw[Q75];decide
  ·split
   ·rw[Q75];decide
   ·split
    ·rw[Q75];decide
    ·split
     ·exact (by decide:(7:Nat)≠21)
     ·split
      ·exact (by decide:(10:Nat)≠21)
      ·split
       ·unfold Q1A
        repeat' split
        all_goals (intro h;simp at h)
       ·exact (by decide:(11:Nat)≠21)
 ·split
  ·exact Qgc l k
  ·split
   ·exact (by decide:(11:Nat)≠21)
   ·exact (by decide:(1:Nat)≠21)
theorem CI.toks {b:List UInt8}(hb:b.length≤1000000):∀ (n k:Nat) (m:Mk) (B D S:Nat),(Qd b).r.length-k≤n→k≤(Qd b).r.length→MkI m (Q5R (Qd b) b k) B D→CI (Qd b).kind m S →
  CI (Qd b).kind ((Q1U (Qd b).r k).foldl (Q63 (Qd b) b) m) (S+3 * ((Qd b).r.length-k))
 |0,k,m,B,D,S,h,hk,hi,hc=>by
  rw[Q1q (by omega)]
  exact⟨hc.c,Nat.le_trans hc.z (by omega)⟩
 |n+1,k,m,B,D,S,h,hk,hi,hc=>by
  have ok:=(Q3D b).1
  have hr:(Qd b).r.length≤1000000:=Nat.le_trans (Q3D b).2.2.1 hb
  by_cases hlt:k<(Qd b).r.length
  ·obtain⟨h1,h2,h3,h4⟩:=Q84 (Qd b).r hlt
   rw[Q1W hlt,List.foldl_cons]
   have:=hi.token (Qd b) b hr (Q11 (Qd b).r k).kind (Q11 (Qd b).r k).from_ (Q11 (Qd b).r k).to (Q11 (Qd b).r k).whole
   rw[h1,h2,Q5K ok (by omega) (by omega) (by omega)] at this
   have hkd:(Q11 (Qd b).r k).kind≠21:=by
    show (((Qk (Qd b).r k).1:Nat):Int)≠21
    have:=Q8u (Qd b).r k
    omega
   have hc2:=CI.token hi hc hkd (f:=k) (u:=((Qk (Qd b).r k).2.1:Nat)) (by omega) (by omega) (by omega) (Q11 (Qd b).r k).whole
   have h5:=CI.toks hb n (Qk (Qd b).r k).2.1 _ (B+3) (D+3) _ (by omega) h4 this hc2
   have e:Q63 (Qd b) b m (Q11 (Qd b).r k)=Q1Y (Qd b) b (Q11 (Qd b).r k).kind k ((Qk (Qd b).r k).2.1:Nat) (Q11 (Qd b).r k).whole m:=rfl
   rw[e]
   exact⟨h5.c,Nat.le_trans h5.z (by omega)⟩
  ·rw[Q1q hlt]
   exact⟨hc.c,Nat.le_trans hc.z (by omega)⟩
end Go.Proofs.YthbjpdijafccjaaGreat
namespace Go.Proofs.YthbjpdijafccjaaGreat
open Go.RowKit Go.Lib Tryz
def rAt (l:List Int)(i:Int):Int:=l[i.toNat]?.getD 0
theorem QbQ {l:List Int}{k:Nat}(h:k<l.length):rAt l k=l[k]:=by rw[rAt,Int.toNat_natCast,List.getElem?_eq_getElem h];rfl
theorem Qf4 {l:List Int}{q i:Int}(h0:0≤i)(h1:i<l.length):Q2i l q i.toNat=if rAt l i=q then ((i+1).toNat,true) else Q2i l q (i+1).toNat:=by
 have h2:i.toNat<l.length:=by omega
 have e:rAt l i=l[i.toNat]:=by rw[rAt,List.getElem?_eq_getElem h2];rfl
 rw[e]
 conv=>lhs;rw[Q2i,dif_pos h2]
 rw[show (i+1).toNat=i.toNat+1 by omega]
def Qx (l:List Int)(k:Int):Int:=if (Q12 l k.toNat).2=true then ((Q12 l k.toNat).1:Nat) else -1
theorem QfO (l:List Int)(hl:l.length≤1000000000)(k:Int)(h0:0≤k)(h1:k<l.length):BCall prog 111 [.slc 1 (Q0 l),.val (.int .i64 k)] [] (.val (.int .i64 (Qx l k))) []:=by
 obtain⟨n,hn⟩:=Qy l
 obtain⟨R,hR⟩:=exq (Qx l k:Int)
 rw[←hR]
 have hxl:=Qi l
 obtain⟨q,hq⟩:=exq (rAt l k)
 have hk:Q12 l k.toNat=Q2i l q (k+1).toNat:=by
  rw[Q12,List.getD_eq_getElem?_getD,hq,rAt,show (k+1).toNat=k.toNat+1 by omega]
 rw[Qx,hk] at hR
 have ak:=Qv (l:=l) h0 (by omega)
 have en:=hn.eq
 have hk1:k<n:=by omega
 clear hk
 refine fnN (cs:=cs0) func111 rfl (by kernel_rfl) ?_
 intro w0 g0
 generalize hp:std=p,hrx:Q0 l=rx
 generalize hT:Q5 p tys (cs0) _ _ _ _=T
 cbv at hT
 subst hT
 simp only[Tree.ok,Q1,S0]
 subst hp hrx
 have hxn:=QV hn
 repeat' first
  |(with_reducible refine And.intro (fun hx=>absurd hx (by first|(try simp[std,S1,hxn])<;>omega|omega)) (fun _=>?_))
  |(with_reducible refine And.intro (fun _=>?_) (fun hx=>absurd hx (by first|(try simp[std,S1,hxn])<;>omega|omega)))
  |(with_reducible refine And.intro (by first|(try simp[std,S1,hxn])<;>omega|omega) ?_)
  |(with_reducible refine And.intro ?_ ?_)
  |(with_reducible intro hb)
 refine Q1r (cs:=cs0) (by kernel_rfl) (X:=Int) (fun i=>⟨[(0,.slc 1 (Q0 l)),(1,.val (.int .i64 k)),(5,.val (.int .i64 i))],[]⟩) (fun i=>k+1≤i∧i≤n∧Q2i l q i.toNat=Q2i l q (k+1).toNat) (fun i=>(n-i).toNat) (k+1) ?_ ?_ ?_
 ·exact⟨Int.le_refl _,by show k+1≤n;omega,rfl⟩
 ·exact⟨[],_,rfl,by simp[Qe,lk,std]⟩
 ·rintro i ⟨hi0,hin,hi⟩
  have hi0:k+1≤i:=hi0
  have hin:i≤n:=hin
  have hi:Q2i l q i.toNat=Q2i l q (k+1).toNat:=hi
  rcases Int.lt_or_eq_of_le hin with hlt|heq
  ·have ai:=Qv (l:=l) (i:=i) (by omega) (by omega)
   have hst:=Qf4 (l:=l) (q:=q) (i:=i) (by omega) (by omega)
   rw[hi] at hst
   clear en hxn hi
   generalize hp:std=p,hrx:Q0 l=rx
   generalize hT:Q5 p tys (cs0) _ _ _ _=T
   cbv at hT
   subst hT
   simp only[Tree.ok,Q1,S0]
   subst hp hrx
   have hxn:=QV hn
   have en:=hn.eq
   repeat' first
    |(with_reducible refine And.intro (fun hx=>absurd hx (by first|(try simp[std,S1,ai,ak,hxn,hlt,hi0])<;>omega|omega)) (fun _=>?_))
    |(with_reducible refine And.intro (fun _=>?_) (fun hx=>absurd hx (by first|(try simp[std,S1,ai,ak,hxn,hlt,hi0])<;>omega|omega)))
    |(with_reducible refine And.intro (by first|(try simp[std,S1,ai,ak,hxn,hlt,hi0])<;>omega|omega) ?_)
    |(with_reducible refine And.intro ?_ ?_)
    |(with_reducible intro hb)
   ·have hb2:rAt l i=q:=by rw[hq];simpa[std,ai,ak,AV.cells,intOf,rAt] using hb
    have hR2:R=i+1:=by rw[hR,hst,if_pos hb2,if_pos rfl];show (((i+1).toNat:Nat):Int)=_;omega
    generalize hp:std=p,hrx:Q0 l=rx
    generalize hT:Q4N p tys _ _ _ _=T
    cbv at hT
    subst hT
    simp only[Tree.ok,Q1,S0]
    subst hp hrx
    refine .pure rfl (.inl ?_)
    rw[hR2];rfl
   ·have hb2:¬ rAt l i=q:=by rw[hq];simpa[std,ai,ak,AV.cells,intOf,rAt] using hb
    rw[if_neg hb2] at hst
    exact⟨i+1,⟨by omega,by omega,hst.symm⟩,by omega,[],_,rfl,by simp[Qe,lk,std]⟩
  ·have hq2:Q2i l q i.toNat=(l.length,false):=by rw[Q2i,dif_neg (by omega)]
   have hR2:R=-1:=by rw[hR,←hi,hq2];rfl
   rw[heq]
   clear en hxn hi hq2
   generalize hp:std=p,hrx:Q0 l=rx
   generalize hT:Q5 p tys (cs0) _ _ _ _=T
   cbv at hT
   subst hT
   simp only[Tree.ok,Q1,S0]
   subst hp hrx
   have hxn:=QV hn
   repeat' first
    |(with_reducible refine And.intro (fun hx=>absurd hx (by first|(try simp[std,S1,hxn])<;>omega|omega)) (fun _=>?_))
    |(with_reducible refine And.intro (fun _=>?_) (fun hx=>absurd hx (by first|(try simp[std,S1,hxn])<;>omega|omega)))
    |(with_reducible refine And.intro (by first|(try simp[std,S1,hxn])<;>omega|omega) ?_)
    |(with_reducible refine And.intro ?_ ?_)
    |(with_reducible intro hb)
   ·rw[if_pos trivial]
    generalize hp:std=p,hrx:Q0 l=rx
    generalize hT:Q5 p tys _ _ _ _ _=T
    cbv at hT
    subst hT
    simp only[Tree.ok,Q1,S0]
    subst hp hrx
    refine .pure rfl (.inl ?_)
    rw[hR2]
def Q1t (kd k t:Int)(w:Bool):AV:=.agg [.val (.int .i64 kd),.val (.int .i64 k),.val (.int .i64 t),.val (.bool w)]
theorem QiX {l:List Int}{i:Int}(h0:0≤i)(h1:i<l.length):Q2g l i.toNat=if rAt l i=62 then ((i+1).toNat,true) else if rAt l i=60 then (i.toNat,false) else Q2g l (i+1).toNat:=by
 have h2:i.toNat<l.length:=by omega
 have e:rAt l i=l[i.toNat]:=by rw[rAt,List.getElem?_eq_getElem h2];rfl
 rw[e]
 conv=>lhs;rw[Q2g,dif_pos h2]
 rw[show (i+1).toNat=i.toNat+1 by omega]
theorem QlO (l:List Int)(hl:l.length≤1000000000)(k:Int)(h0:0≤k)(h1:k+2≤l.length):BCall prog 88 [.slc 1 (Q0 l),.val (.int .i64 k)] [] (Q1t 10 k ((Q3m l k.toNat).2.1:Nat) (Q3m l k.toNat).2.2) []:=by
 obtain⟨n,hn⟩:=Qy l
 have hxl:=Qi l
 obtain⟨rt,hrt⟩:=exq (((Q2g l (k+2).toNat).1:Nat):Int)
 obtain⟨rb,hrb⟩:=exq ((Q2g l (k+2).toNat).2:Bool)
 have e:Q1t 10 k ((Q3m l k.toNat).2.1:Nat) (Q3m l k.toNat).2.2=Q1t 10 k rt rb:=by
  rw[hrt,hrb,Q3m,show (k+2).toNat=k.toNat+2 by omega]
 rw[e,Q1t]
 have en:=hn.eq
 have hk1:k+2≤n:=by omega
 clear e h1
 refine fnN (cs:=cs0) func88 rfl (by kernel_rfl) ?_
 intro w0 g0
 generalize hp:std=p,hrx:Q0 l=rx
 generalize hT:Q5 p tys (cs0) _ _ _ _=T
 cbv at hT
 subst hT
 simp only[Tree.ok,Q1,S0]
 subst hp hrx
 have hxn:=QV hn
 repeat' first
  |(with_reducible refine And.intro (fun hx=>absurd hx (by first|(try simp[std,S1,hxn])<;>omega|omega)) (fun _=>?_))
  |(with_reducible refine And.intro (fun _=>?_) (fun hx=>absurd hx (by first|(try simp[std,S1,hxn])<;>omega|omega)))
  |(with_reducible refine And.intro (by first|(try simp[std,S1,hxn])<;>omega|omega) ?_)
  |(with_reducible refine And.intro ?_ ?_)
  |(with_reducible intro hb)
 refine Q1r (cs:=cs0) (by kernel_rfl) (X:=Int) (fun i=>⟨[(0,.slc 1 (Q0 l)),(1,.val (.int .i64 k)),(4,.box 0 0),(5,.val (.int .i64 i))],[.box [.val (.int .i64 0),.val (.int .i64 0),.val (.int .i64 0),.val (.bool false)]]⟩) (fun i=>k+2≤i∧i≤n∧Q2g l i.toNat=Q2g l (k+2).toNat) (fun i=>(n-i).toNat) (k+2) ?_ ?_ ?_
 ·exact⟨Int.le_refl _,hk1,rfl⟩
 ·refine⟨[some 0],_,rfl,?_⟩
  repeat first
   |exact trivial
   |refine⟨rfl,?_⟩
 ·rintro i ⟨hi0,hin,hi⟩
  have hi0:k+2≤i:=hi0
  have hin:i≤n:=hin
  have hi:Q2g l i.toNat=Q2g l (k+2).toNat:=hi
  rcases Int.lt_or_eq_of_le hin with hlt|heq
  ·have ai:=Qv (l:=l) (i:=i) (by omega) (by omega)
   have hst:=QiX (l:=l) (i:=i) (by omega) (by omega)
   rw[hi] at hst
   clear en hxn hi
   generalize hp:std=p,hrx:Q0 l=rx
   generalize hT:Q5 p tys (cs0) _ _ _ _=T
   cbv at hT
   subst hT
   simp only[Tree.ok,Q1,S0]
   subst hp hrx
   have hxn:=QV hn
   have en:=hn.eq
   repeat' first
    |(with_reducible refine And.intro (fun hx=>absurd hx (by first|(try simp[std,S1,ai,hxn,hlt,hi0])<;>omega|omega)) (fun _=>?_))
    |(with_reducible refine And.intro (fun _=>?_) (fun hx=>absurd hx (by first|(try simp[std,S1,ai,hxn,hlt,hi0])<;>omega|omega)))
    |(with_reducible refine And.intro (by first|(try simp[std,S1,ai,hxn,hlt,hi0])<;>omega|omega) ?_)
    |(with_reducible refine And.intro ?_ ?_)
    |(with_reducible intro hb)
   ·have hb2:rAt l i=62:=by simpa[std,ai,AV.cells,intOf,rAt] using hb
    rw[if_pos hb2] at hst
    have ht2:rt=i+1:=by rw[hrt,hst];show (((i+1).toNat:Nat):Int)=_;omega
    have hw2:rb=true:=by rw[hrb,hst]
    generalize hp:std=p,hrx:Q0 l=rx
    generalize hT:Q4N p tys _ _ _ _=T
    cbv at hT
    subst hT
    simp only[Tree.ok,Q1,S0]
    subst hp hrx
    exact .pure rfl ⟨.inl rfl,.inl rfl,.inl (by rw[ht2];rfl),.inl (by rw[hw2]),trivial⟩
   ·rename_i h62
    have hb1:¬ rAt l i=62:=by simpa[std,ai,AV.cells,intOf,rAt] using h62
    have hb2:rAt l i=60:=by simpa[std,ai,AV.cells,intOf,rAt] using hb
    rw[if_neg hb1,if_pos hb2] at hst
    have ht2:rt=i:=by rw[hrt,hst];show ((i.toNat:Nat):Int)=_;omega
    have hw2:rb=false:=by rw[hrb,hst]
    generalize hp:std=p,hrx:Q0 l=rx
    generalize hT:Q4N p tys _ _ _ _=T
    cbv at hT
    subst hT
    simp only[Tree.ok,Q1,S0]
    subst hp hrx
    exact .pure rfl ⟨.inl rfl,.inl rfl,.inl (by rw[ht2]),.inl (by rw[hw2]),trivial⟩
   ·rename_i h62
    have hb1:¬ rAt l i=62:=by simpa[std,ai,AV.cells,intOf,rAt] using h62
    have hb2:¬ rAt l i=60:=by simpa[std,ai,AV.cells,intOf,rAt] using hb
    rw[if_neg hb1,if_neg hb2] at hst
    refine⟨i+1,⟨by omega,by omega,hst.symm⟩,by omega,[some 0],_,rfl,?_⟩
    repeat first
     |exact trivial
     |refine⟨rfl,?_⟩
  ·have hq2:Q2g l i.toNat=(l.length,false):=by rw[Q2g,dif_neg (by omega)]
   have ht2:rt=n:=by rw[hrt,←hi,hq2,hn.eq]
   have hb2:rb=false:=by rw[hrb,←hi,hq2]
   rw[heq]
   clear en hxn hi hq2
   generalize hp:std=p,hrx:Q0 l=rx
   generalize hT:Q5 p tys (cs0) _ _ _ _=T
   cbv at hT
   subst hT
   simp only[Tree.ok,Q1,S0]
   subst hp hrx
   have hxn:=QV hn
   repeat' first
    |(with_reducible refine And.intro (fun hx=>absurd hx (by first|(try simp[std,S1,hxn])<;>omega|omega)) (fun _=>?_))
    |(with_reducible refine And.intro (fun _=>?_) (fun hx=>absurd hx (by first|(try simp[std,S1,hxn])<;>omega|omega)))
    |(with_reducible refine And.intro (by first|(try simp[std,S1,hxn])<;>omega|omega) ?_)
    |(with_reducible refine And.intro ?_ ?_)
    |(with_reducible intro hb)
   ·rw[if_pos trivial]
    generalize hp:std=p,hrx:Q0 l=rx
    generalize hT:Q5 p tys _ _ _ _ _=T
    cbv at hT
    subst hT
    simp only[Tree.ok,Q1,S0]
    subst hp hrx
    exact .pure rfl ⟨.inl rfl,.inl rfl,.inl (by rw[ht2];exact congrArg _ (congrArg _ hxn)),.inl (by rw[hb2]),trivial⟩
def Q6j (l:List Int)(f:Int)(bs:List UInt8):Int:=match Q3M l f.toNat l.length bs with
 |none=>-1
 |some j=>(j:Int)
def Qh2 (st:Int→Bool):Nat→List AV→List Ob→Option (AV×List Ob):=fun f args _=>match f,args with
 |85,[.slc 1 _,.val (.int .i64 k),.val (.string _)]=>some (.val (.bool (st k)),[])
 |_,_=>none
def stI (l:List Int)(bs:List UInt8)(k:Int):Bool:=Q3 l k.toNat bs
theorem QkP (l:List Int)(hl:l.length≤1000000000)(hi32:I32 l)(f:Int)(h0:0≤f)(hf:f≤2000000000)(s:ByteArray)(hs:s.size≤1000000000) :
  BCall prog 109 [.slc 1 (Q0 l),.val (.int .i64 f),.val (.int .i64 l.length),.val (.string s)] [] (.val (.int .i64 (Q6j l f s.data.toList))) []:=by
 obtain⟨n,hn⟩:=Qy l
 have cS:∀ k:Int,0≤k→k≤n→BCall prog 85 [.slc 1 (Q0 l),.val (.int .i64 k),.val (.string s)] [] (.val (.bool (stI l s.data.toList k))) []:=fun k k0 k1=>Qa l hl hi32 k k0 (by have:=hn.eq;omega) s hs
 have hxl:=Qi l
 have hsl:s.data.toList.length=s.size:=by simp
 obtain⟨z,hz⟩:∃ z:Int,IsN s.size z:=⟨_,rfl⟩
 have hz0:0≤z:=by have:=hz.eq;omega
 have hz1:z≤1000000000:=by have:=hz.eq;omega
 have hsz:std.szS s=z:=hz.eq.symm
 obtain⟨R,hR⟩:=exq (Q6j l f s.data.toList:Int)
 rw[←hR,←hn.eq]
 obtain⟨bs,hbs⟩:=exq s.data.toList
 rw[←hbs] at hsl hR cS
 have hn9:n≤1000000000:=by have:=hn.eq;omega
 clear hbs hi32
 refine fnN (cs:=Qh2 (stI l bs)) func109 rfl (by kernel_rfl) ?_
 intro w0 g0
 generalize hp:std=p,hrx:Q0 l=rx,hst:stI l bs=st
 generalize hT:Q5 p tys (Qh2 st) _ _ _ _=T
 cbv at hT
 subst hT
 simp only[Tree.ok,Q1,S0]
 subst hp hrx hst
 refine Q1r (cs:=Qh2 (stI l bs)) (by kernel_rfl) (X:=Int) (fun i=>⟨[(0,.slc 1 (Q0 l)),(2,.val (.int .i64 n)),(3,.val (.string s)),(9,.val (.int .i64 i))],[]⟩) (fun i=>f≤i∧i≤2000000001∧∀ j:Nat,f.toNat≤j→j<i.toNat→Q3 l j bs=false) (fun i=>(n+1-i).toNat) f ?_ ?_ ?_
 ·exact⟨Int.le_refl _,by omega,fun j h1 h2=>by omega⟩
 ·refine⟨[],_,rfl,?_⟩
  repeat first
   |exact trivial
   |refine⟨rfl,?_⟩
 ·rintro i ⟨hi0,hin,hi⟩
  have hi0:f≤i:=hi0
  have hin:i≤2000000001:=hin
  have hi:∀ j:Nat,f.toNat≤j→j<i.toNat→Q3 l j bs=false:=hi
  have hend:¬ (i≤n∧i+z≤n)→R=-1:=fun h=>by
   have hn1:=hn.eq
   have hz2:=hz.eq
   rw[hR,Q6j,Qa1 l f.toNat l.length bs (fun j h1 h2=>hi j h1 (by omega))]
  by_cases hc1:i≤n
  ·by_cases hc2:i+z≤n
   ·have cSi:=cS i (by omega) (by omega)
    clear hend
    generalize hp:std=p,hrx:Q0 l=rx,hst:stI l bs=st
    generalize hT:Q5 p tys (Qh2 st) _ _ _ _=T
    cbv at hT
    subst hT
    simp only[Tree.ok,Q1,S0]
    subst hp hrx hst
    have hxn:=QV hn
    have hszz:(s.size:Int)=z:=hz.eq.symm
    repeat' first
     |(with_reducible refine And.intro (fun hx=>absurd hx (by first|(try simp[std,S1,hxn,hszz,hc1,hc2,hi0])<;>omega|omega)) (fun _=>?_))
     |(with_reducible refine And.intro (fun _=>?_) (fun hx=>absurd hx (by first|(try simp[std,S1,hxn,hszz,hc1,hc2,hi0])<;>omega|omega)))
     |(with_reducible refine And.intro (by first|(try simp[std,S1,hxn,hszz,hc1,hc2,hi0])<;>omega|omega) ?_)
     |(with_reducible refine And.intro ?_ ?_)
     |(with_reducible intro hb)
    ·have hb:Q3 l i.toNat bs=true:=hb
     have hR2:R=i:=by
      have hn1:=hn.eq
      have hz2:=hz.eq
      rw[hR,Q6j,Qbg l f.toNat l.length bs i.toNat (by omega) (by omega) hi hb]
      show ((i.toNat:Nat):Int)=i
      omega
     generalize hp:std=p,hrx:Q0 l=rx,hst:stI l bs=st
     generalize hT:Q4N p tys _ _ _ _=T
     cbv at hT
     subst hT
     simp only[Tree.ok,Q1,S0]
     subst hp hrx hst
     refine .pure rfl (.inl ?_)
     rw[hR2]
    ·have hb:Q3 l i.toNat bs=false:=hb
     refine⟨i+1,⟨by omega,by omega,fun j h1 h2=>?_⟩,by omega,[],_,rfl,?_⟩
     ·by_cases hj:j<i.toNat
      ·exact hi j h1 hj
      ·obtain rfl:j=i.toNat:=by omega
       exact hb
     ·repeat first
       |exact trivial
       |refine⟨rfl,?_⟩
   ·have hR2:=hend (fun h=>hc2 h.2)
    clear hend
    generalize hp:std=p,hrx:Q0 l=rx,hst:stI l bs=st
    generalize hT:Q5 p tys (Qh2 st) _ _ _ _=T
    cbv at hT
    subst hT
    simp only[Tree.ok,Q1,S0]
    subst hp hrx hst
    have hxn:=QV hn
    have hszz:(s.size:Int)=z:=hz.eq.symm
    repeat' first
     |(with_reducible refine And.intro (fun hx=>absurd hx (by first|(try simp[std,S1,hxn,hszz,hc1,hc2,hi0])<;>omega|omega)) (fun _=>?_))
     |(with_reducible refine And.intro (fun _=>?_) (fun hx=>absurd hx (by first|(try simp[std,S1,hxn,hszz,hc1,hc2,hi0])<;>omega|omega)))
     |(with_reducible refine And.intro (by first|(try simp[std,S1,hxn,hszz,hc1,hc2,hi0])<;>omega|omega) ?_)
     |(with_reducible refine And.intro ?_ ?_)
     |(with_reducible intro hb)
    all_goals
     rw[if_pos trivial]
     generalize hp:std=p,hrx:Q0 l=rx,hst:stI l bs=st
     generalize hT:Q5 p tys _ _ _ _ _=T
     cbv at hT
     subst hT
     simp only[Tree.ok,Q1,S0]
     subst hp hrx hst
     refine .pure rfl (.inl ?_)
     rw[hR2]
  ·have hR2:=hend (fun h=>hc1 h.1)
   clear hend
   generalize hp:std=p,hrx:Q0 l=rx,hst:stI l bs=st
   generalize hT:Q5 p tys (Qh2 st) _ _ _ _=T
   cbv at hT
   subst hT
   simp only[Tree.ok,Q1,S0]
   subst hp hrx hst
   have hxn:=QV hn
   have hszz:(s.size:Int)=z:=hz.eq.symm
   repeat' first
    |(with_reducible refine And.intro (fun hx=>absurd hx (by first|(try simp[std,S1,hxn,hszz,hc1,hi0])<;>omega|omega)) (fun _=>?_))
    |(with_reducible refine And.intro (fun _=>?_) (fun hx=>absurd hx (by first|(try simp[std,S1,hxn,hszz,hc1,hi0])<;>omega|omega)))
    |(with_reducible refine And.intro (by first|(try simp[std,S1,hxn,hszz,hc1,hi0])<;>omega|omega) ?_)
    |(with_reducible refine And.intro ?_ ?_)
    |(with_reducible intro hb)
   all_goals
    rw[if_pos trivial]
    generalize hp:std=p,hrx:Q0 l=rx,hst:stI l bs=st
    generalize hT:Q5 p tys _ _ _ _ _=T
    cbv at hT
    subst hT
    simp only[Tree.ok,Q1,S0]
    subst hp hrx hst
    refine .pure rfl (.inl ?_)
    rw[hR2]
def Q3l (l:List Int)(f:Int)(bs:List UInt8):Int:=if Q6j l f bs<0 then (l.length:Int) else Q6j l f bs+(bs.length:Int)
def Q3j (l:List Int)(f:Int)(bs:List UInt8):Bool:=!decide (Q6j l f bs<0)
theorem Q5c (l:List Int)(kd k sk:Nat)(bs:List UInt8)(h:k+sk≤l.length):(Q17 l kd k sk bs).1=kd∧((Q17 l kd k sk bs).2.1:Int)=Q3l l ((k:Int)+sk) bs∧(Q17 l kd k sk bs).2.2=Q3j l ((k:Int)+sk) bs:=by
 unfold Q17 Q3l Q3j Q6j
 rw[Nat.min_eq_left h,show ((k:Int)+(sk:Int)).toNat=k+sk by omega]
 cases Q3M l (k+sk) l.length bs with
 |none=>exact⟨rfl,rfl,rfl⟩
 |some j =>
  have:¬ ((j:Int)<0):=by omega
  simp only[if_neg this,decide_eq_false this]
  exact⟨trivial,by omega,rfl⟩
def Qmh (R:Int):Nat→List AV→List Ob→Option (AV×List Ob):=fun f args _=>match f,args with
 |109,[.slc 1 _,.val (.int .i64 _),.val (.int .i64 _),.val (.string _)]=>some (.val (.int .i64 R),[])
 |_,_=>none
theorem Qjq (l:List Int)(f:Int)(bs:List UInt8):Q6j l f bs≤l.length:=by
 unfold Q6j
 cases h:Q3M l f.toNat l.length bs with
 |none=>show (-1:Int)≤_;omega
 |some j=>have:=(Qco l _ _ bs j h).2;show (j:Int)≤_;omega
theorem Q7Q (l:List Int)(hl:l.length≤1000000000)(hi32:I32 l)(kd k sk:Int)(h0:0≤k)(h1:0≤sk)(h2:k+sk≤l.length)(s:ByteArray)(hs:s.size≤1000000000) :
  BCall prog 86 [.slc 1 (Q0 l),.val (.int .i64 kd),.val (.int .i64 k),.val (.int .i64 sk),.val (.string s)] [] (Q1t kd k (Q3l l (k+sk) s.data.toList) (Q3j l (k+sk) s.data.toList)) []:=by
 have cF:=QkP l hl hi32 (k+sk) (by omega) (by omega) s hs
 have hsl:s.data.toList.length=s.size:=by simp
 have hR1:=Qjq l (k+sk) s.data.toList
 obtain⟨n,hn⟩:=Qy l
 have hxl:=Qi l
 rw[←hn.eq] at cF hR1 h2
 obtain⟨z,hz⟩:∃ z:Int,IsN s.size z:=⟨_,rfl⟩
 have hz0:0≤z:=by have:=hz.eq;omega
 have hz1:z≤1000000000:=by have:=hz.eq;omega
 obtain⟨R,hR⟩:=exq (Q6j l (k+sk) s.data.toList:Int)
 have hn9:n≤1000000000:=by have:=hn.eq;omega
 have e:Q1t kd k (Q3l l (k+sk) s.data.toList) (Q3j l (k+sk) s.data.toList)=Q1t kd k (if R<0 then n else R+z) (!decide (R<0)):=by
  rw[Q3l,Q3j,←hR,hsl,←hn.eq,hz.eq]
 rw[e,Q1t]
 rw[←hR] at cF hR1
 clear e hR hsl
 obtain⟨T,hT9⟩:=exq ((if R<0 then n else R+z))
 obtain⟨B,hB9⟩:=exq (!decide (R<0))
 rw[←hT9,←hB9]
 obtain⟨fr,hfr⟩:=exq (k+sk)
 rw[←hfr] at cF h2
 refine fnN (cs:=Qmh R) func86 rfl (by kernel_rfl) ?_
 intro w0 g0
 generalize hp:std=p,hrx:Q0 l=rx
 generalize hT:Q5 p tys (Qmh R) _ _ _ _=T
 cbv at hT
 subst hT
 simp only[Tree.ok,Q1,S0]
 subst hp hrx
 have hxn:=QV hn
 have hszz:(s.size:Int)=z:=hz.eq.symm
 have cF2:BCall prog 109 [.slc 1 (Q0 l),.val (.int .i64 (std.add k sk)),.val (.int .i64 (std.len (Q0 l))),.val (.string s)] [] (.val (.int .i64 R)) []:=by
  rw[show std.add k sk=fr from hfr.symm,show std.len (Q0 l)=n from hxn];exact cF
 repeat' first
  |(with_reducible refine And.intro (fun hx=>absurd hx (by first|(try simp[std,S1,hxn,hszz,hfr,h2])<;>omega|omega)) (fun _=>?_))
  |(with_reducible refine And.intro (fun _=>?_) (fun hx=>absurd hx (by first|(try simp[std,S1,hxn,hszz,hfr,h2])<;>omega|omega)))
  |(with_reducible refine And.intro (by first|(try simp[std,S1,hxn,hszz,hfr,h2])<;>omega|omega) ?_)
  |(with_reducible refine And.intro ?_ ?_)
  |(with_reducible intro hb)
 ·have hb:R<0:=of_decide_eq_true hb
  rw[if_pos hb] at hT9
  exact .pure rfl ⟨.inl rfl,.inl rfl,.inl (by rw[hT9];exact congrArg _ (congrArg _ hxn)),.inl (by rw[hB9,decide_eq_true hb];rfl),trivial⟩
 ·have hb:¬ R<0:=of_decide_eq_false hb
  show (-9223372036854775808:Int)≤R+s.size∧R+s.size≤(9223372036854775807:Int)
  omega
 ·have hb:¬ R<0:=of_decide_eq_false hb
  rw[if_neg hb] at hT9
  exact .pure rfl ⟨.inl rfl,.inl rfl,.inl (by rw[hT9,←hszz];rfl),.inl (by rw[hB9,decide_eq_false hb];rfl),trivial⟩
end Go.Proofs.YthbjpdijafccjaaGreat
namespace Go.Proofs.YthbjpdijafccjaaGreat
open Go.RowKit Go.Lib
theorem Qgz (x:Int)(h:0<Qw x):Q2l [x]=encodeRune x:=by
 have e:Q2l [x]=Q4d x:=by simp[Q2l]
 rw[e,Q4d,if_neg (by omega)]
def ofI:Int→List Int→List Itm
 |_,[]=>[]
 |a,x::r=>⟨x,a,(Q2l [x]).length⟩::ofI (a+(Q2l [x]).length) r
theorem Q65 (x:Int)(r:List Int):Q2l (x::r)=Q2l [x]++Q2l r:=by
 simp[Q2l]
theorem QhD:∀ (l:List Int) (a:Int),(ofI a l).map Itm.r=l
 | [],_=>rfl
 |x::r,a=>by simp only[ofI,List.map_cons,QhD]
theorem Q9Z:∀ (l:List Int) (a:Nat),(∀ x∈l,0<Qw x)→(Q1S (Q2l l).length a (Q2l l)).map Q9s=ofI a l
 | [],a,_=>by simp[Q2l,Q2p,ofI]
 |x::r,a,h=>by
  have hx:=h x (List.mem_cons_self ..)
  have e1:=Qgz x hx
  have hw:=Q5r x hx
  have hne:Q2l (x::r)≠[]:=fun h=>by
   have:=congrArg List.length h
   rw[Q65,List.length_append,e1,hw] at this
   simp at this;omega
  have hf:=Q3P x hx (Q2l r)
  rw[←e1,←Q65] at hf
  rw[Q5y a _ hne,hf]
  simp only[List.map_cons,ofI]
  have ed:(Q2l (x::r)).drop (Qw x)=Q2l r:=by
   rw[Q65,e1,←hw,List.drop_left]
  rw[ed,Q9Z r (a+Qw x) fun y hy=>h y (List.mem_cons_of_mem _ hy),e1,hw]
  rfl
end Go.Proofs.YthbjpdijafccjaaGreat
