/-
  Parts of the proof, joined: Og. Conditions: as each theorem says.
-/
import Derived.Test.YthbjpdijafccjaaGreatQE15
set_option maxRecDepth 100000
set_option maxHeartbeats 8000000
namespace Go.Proofs.YthbjpdijafccjaaGreat
open Go.RowKit Go.Lib Tryz
theorem QbK {l:List Node}(hw:Wf l):∀ (m:Nat) (n:Int) (top:Bool),0≤n→n<l.length→n.toNat<m→(spV l n top).length≤2 * co l n
 |0,_,_,_,_,h=>by omega
 |m+1,n,top,h0,h1,h2=>by
  rw[Q9m hw h0 h1,QfJ hw h0 h1]
  split
  ·simp;omega
  ·have:((Qj l n).kids.flatMap (fun k=>spV l k false)).length≤2 * ((Qj l n).kids.map (co l)).sum:=by
    have hk:∀ k∈(Qj l n).kids,(spV l k false).length≤2 * co l k:=fun k hk=>by
     have:=hw n h0 h1 k hk
     exact QbK hw m k false this.1 (by omega) (by omega)
    generalize (Qj l n).kids=ks at hk ⊢
    induction ks with
    |nil=>simp
    |cons k r ih =>
     have h3:=hk k (List.mem_cons_self ..)
     have h4:=ih fun x hx=>hk x (List.mem_cons_of_mem _ hx)
     simp only[List.flatMap_cons,List.length_append,List.map_cons,List.sum_cons]
     omega
   simp only[List.length_append]
   have h5:(if top=true then ([]:List Ev) else [⟨1,0,[]⟩]).length≤1:=by split<;>simp
   have h6:(if top=true then ([]:List Ev) else [⟨3,0,[]⟩]).length≤1:=by split<;>simp
   omega
def evK (l:List Node)(c:Cur)(top:Bool)(k:Int):List Ev:=(if top=true then [] else [⟨1,0,[]⟩])++((Qq l c).take k.toNat).flatMap (fun x=>spV l x false)
theorem Qi9 {l:List Node}{c:Cur}{top:Bool}{k:Int}(h0:0≤k)(h1:k<(Qq l c).length):evK l c top (k+1)=evK l c top k++spV l (Q2z l c k).n false:=by
 have hk:k.toNat<(Qq l c).length:=by omega
 have hx:(Q2z l c k).n=(Qq l c)[k.toNat]:=by show (Qq l c)[k.toNat]?.getD 0=_;rw[List.getElem?_eq_getElem hk];rfl
 unfold evK
 rw[show (k+1).toNat=k.toNat+1 by omega,List.take_add_one,List.getElem?_eq_getElem hk,List.flatMap_append,hx]
 simp
theorem Qjc (l:List Node)(b:List UInt8)(C:Nat)(ha:Ar l)(ho:∀ x∈l,Q54 x)(hl:l.length≤1000000000)(hb:b.length≤1000000)(hC:C≤1000000):∀ (m:Nat) (c:Cur) (top:Bool),c.n.toNat<m→CurB l b C c →
  BCall prog 7 [.agg (c.el (Q7 l)),.val (.bool top)] [] (.slc 3 (Q2X (spV l c.n top))) []:=by
 intro m
 induction m with
 |zero=>intro c top h;omega
 |succ m ih =>
 intro c top hcm hc
 have hok:=hc.1.ok ha (by omega) hC
 have cK0:=Qbm l c
 have cK:=cK0.le (args:=[.agg (c.el (Q7 l))]) ⟨⟨.inr (.inr (.inr rfl)),.inl rfl,.inl rfl,.inl rfl,.inl rfl,trivial⟩,trivial⟩
 have cT:=QjW l c (CurB.prOk ha hl hb hC hc)
 have cD:=QhW l c 0 ha.ok.w hok
 have hsp:=Q9m ha.wf hc.1.h0 hc.1.h1 top
 obtain⟨R,hR⟩:=exq (spV l c.n top)
 rw[←hR] at hsp ⊢
 obtain⟨n,hn⟩:=Qy (Qq l c)
 have hin:∀ k:Int,0≤k→k<n→dOk l c k=true:=fun k h0 h1=>decide_eq_true ⟨h0,by rw[←hn.eq];exact h1⟩
 have hout:∀ k:Int,¬ k<n→dOk l c k=false:=fun k h1=>decide_eq_false fun h=>h1 (by rw[hn.eq];exact h.2)
 have hn9:n≤1000000:=by rw[hn.eq];have:=hok.n;omega
 have hkid:∀ k:Int,0≤k→k<n→BCall prog 7 [.agg (dE l c k),.val (.bool false)] [] (.slc 3 (spA l (nE l c k))) []:=fun k h0 h1=>by
  have h1':k<(Qq l c).length:=by rw[←hn.eq];exact h1
  have hd:CurB l b C (Q2z l c k):=⟨hc.1.down ha h0 h1',hc.2.down ha ho hc.1 h0 h1'⟩
  have hk:k.toNat<(Qq l c).length:=by omega
  have hx:(Q2z l c k).n=(Qq l c)[k.toNat]:=by show (Qq l c)[k.toNat]?.getD 0=_;rw[List.getElem?_eq_getElem hk];rfl
  have hlt:=ha.wf c.n hc.1.h0 hc.1.h1 _ (List.getElem_mem hk)
  have:=ih (Q2z l c k) false (by rw[hx];have:=hlt.1;have:=hlt.2;omega) hd
  rw[QiQ (hin k h0 h1),nE,if_pos (hin k h0 h1)]
  exact this
 have hnext:∀ k:Int,0≤k→k<n→BCall prog 20 [.agg (dE l c k)] [] (.tup [.agg (dE l c (nxt (kE l c k))),.val (.bool (dOk l c (nxt (kE l c k))))]) []:=fun k h0 h1=>by
  rw[QiQ (hin k h0 h1),kE,if_pos (hin k h0 h1)]
  exact Qkh l ha.ok.w _ _ k c hok ⟨h0,by omega⟩
 have hkE:∀ k:Int,0≤k→k<n→nxt (kE l c k)=k+1:=fun k h0 h1=>by rw[kE,if_pos (hin k h0 h1)];rfl
 have hnx:∀ k:Int,0≤k→k<n→Q2X (evK l c top (k+1))=Q2X (evK l c top k)++spA l (nE l c k):=fun k h0 h1=>by
  rw[Qi9 h0 (by rw[←hn.eq];exact h1),Qfg,nE,if_pos (hin k h0 h1)];rfl
 have hev:∀ k:Int,(evK l c top k).length≤3000000:=fun k=>by
  have h1:=QbK ha.wf (c.n.toNat+1) c.n top hc.1.h0 hc.1.h1 (by omega)
  have h2:=hc.1.co
  have h3:(evK l c top k).length≤1+((Qq l c).flatMap (fun x=>spV l x false)).length:=by
   unfold evK
   rw[List.length_append]
   have h5:(if top=true then ([]:List Ev) else [⟨1,0,[]⟩]).length≤1:=by split<;>simp
   have h6:(((Qq l c).take k.toNat).flatMap (fun x=>spV l x false)).length≤((Qq l c).flatMap (fun x=>spV l x false)).length:=by
    conv=>rhs;rw[←List.take_append_drop k.toNat (Qq l c)]
    rw[List.flatMap_append,List.length_append];omega
   omega
  have h4:((Qq l c).flatMap (fun x=>spV l x false)).length≤2 * coL l (Qq l c):=by
   have hk:∀ k∈Qq l c,(spV l k false).length≤2 * co l k:=fun k hk=>by
    have:=ha.wf c.n hc.1.h0 hc.1.h1 k hk
    have:=hc.1.h1
    exact QbK ha.wf (k.toNat+1) k false (by omega) (by omega) (by omega)
   generalize Qq l c=ks at hk ⊢
   clear h3
   induction ks with
   |nil=>simp[coL]
   |cons k r ih =>
    have h3:=hk k (List.mem_cons_self ..)
    have h4:=ih fun x hx=>hk x (List.mem_cons_of_mem _ hx)
    simp only[List.flatMap_cons,List.length_append,coL,List.map_cons,List.sum_cons] at h4 ⊢
    omega
  have:=hc.1.cos ha
  omega
 have hbd:∀ (k:Int) (z:List AV),z.length≤3000000→std.bnd (Q2X (evK l c top k)) z:=fun k z hz=>by
  show (Q2X (evK l c top k)).length+z.length≤1000000000
  rw[QbP];have:=hev k;omega
 have hsl:∀ k:Int,0≤k→k<n→(spA l (nE l c k)).length≤3000000:=fun k h0 h1=>by
  have:=hev (k+1)
  have e:=congrArg List.length (hnx k h0 h1)
  rw[List.length_append,QbP] at e
  omega
 obtain⟨cn,hcn⟩:=exq c.n
 obtain⟨cf,hcf⟩:=exq c.f
 obtain⟨ck,hck⟩:=exq c.k
 have hkd:Q19 l cn=(Qj l c.n).kind:=by rw[hcn];rfl
 have hpr:prA l cn=Q2 (pr l c.n):=by rw[hcn];rfl
 rw[←hkd] at hsp
 simp only[Cur.el,dE] at cK cT cD hkid hnext ⊢
 rw[←hcn,←hcf,←hck] at cK cT cD ⊢
 have cK:BCall prog 9 [.agg [.opt (.ref [.slc 6 (Q7 l)]),.val (.int .i64 cn),.val (.int .i64 cf),.val (.int .i64 ck),.opt (upO (Q7 l) c)]] [] (.val (.int .i64 (Q19 l cn))) []:=cK
 have cT:BCall prog 18 [.agg [.opt (.ref [.slc 6 (Q7 l)]),.val (.int .i64 cn),.val (.int .i64 cf),.val (.int .i64 ck),.opt (upO (Q7 l) c)]] [] (.slc 1 (prA l cn)) []:=cT
 have hkn:Qq l c=(Qj l c.n).kids:=rfl
 have hend:∀ k:Int,k=n→evK l c top k=(if top=true then [] else [⟨1,0,[]⟩])++(Qj l c.n).kids.flatMap (fun x=>spV l x false):=fun k h=>by
  have e:=hn.eq
  unfold evK
  rw[List.take_of_length_le (by omega),hkn]
 clear cK0 hcm ih
 have hb0:∀ z,std.bnd [] [z]:=fun z=>by
  show 0+1≤1000000000
  omega
 have hb0:=hb0 (.agg [.val (.int .i64 1),.val (.int .i64 0),.val (.slice none 0 0)])
 cases top with
 |true =>
  refine fnO false (cs:=Q81 (Q19 l) (prA l) (pE l c) (pE l c) (nE l c) (fE l c) (kE l c) (uE l c) (dOk l c) (spA l) nxt) (ord:=fun id=>match id with|3=> Qme|_=>.nil) func7 rfl (by kernel_rfl) ?_
  intro w0 g0
  generalize hp:std=p
  generalize hU:upO (Q7 l) c=U
  generalize hkd:Q19 l=kd
  generalize htx:prA l=tx
  generalize hp0:pE l c=p0
  generalize hn0:nE l c=n0
  generalize hf0:fE l c=f0
  generalize hk0:kE l c=k0
  generalize hu0:uE l c=u0
  generalize hok:dOk l c=ok
  generalize hsp:spA l=sp
  generalize hnx:nxt=nx
  generalize hN:Q7 l=N
  generalize hT:Q5 p tys (Q81 kd tx p0 p0 n0 f0 k0 u0 ok sp nx) _ _ _ _=T
  cbv at hT
  subst hT
  simp only[Tree.ok,Q1,S0]
  subst hp hU hkd htx hp0 hn0 hf0 hk0 hu0 hok hsp hnx hN
  refine⟨cK,fun hk=>⟨fun ht=>?_,fun ht=>?_⟩,fun hk=>?_⟩
  ·simp[std] at ht
  ·rw[if_neg (fun h=>absurd h.2 (by decide))] at hsp

   refine⟨fun ht=>?_,fun ht=>?_⟩
   ·exact absurd ht (by decide)

   refine⟨cD,?_⟩
   refine Q1r (cs:=Q81 (Q19 l) (prA l) (pE l c) (pE l c) (nE l c) (fE l c) (kE l c) (uE l c) (dOk l c) (spA l) nxt) (by kernel_rfl) (X:=Int) (fun k=>⟨[(1,.val (.bool true)),(2,.box 0 0),(5,.row 2 0),(6,.box 1 0),(7,.val (.bool (dOk l c k)))],[.box [.opt (.ref [.slc 6 (Q7 l)]),.val (.int .i64 cn),.val (.int .i64 cf),.val (.int .i64 ck),.opt (upO (Q7 l) c)],.box [.opt (pE l c k),.val (.int .i64 (nE l c k)),.val (.int .i64 (fE l c k)),.val (.int .i64 (kE l c k)),.opt (uE l c k)],.row 47 3 false 0 (Q2X (evK l c true k))]⟩) (fun k=>0≤k∧k≤n) (fun k=>(n-k).toNat) 0 ?_ ?_ ?_
   ·have:=hn.eq
    exact⟨Int.le_refl 0,by omega⟩
   ·refine⟨[some 0,some 1,none],_,rfl,?_⟩
    have e0:Q2X (evK l c true 0)=[]:=rfl
    rw[e0]
    repeat first
     |exact trivial
     |refine⟨rfl,?_⟩
   ·rintro k ⟨hk0,hk1⟩
    have hk0:0≤k:=hk0
    have hk1:k≤n:=hk1
    generalize hp:std=p
    generalize hU:upO (Q7 l) c=U
    generalize hkd:Q19 l=kd
    generalize htx:prA l=tx
    generalize hp0:pE l c=p0
    generalize hn0:nE l c=n0
    generalize hf0:fE l c=f0
    generalize hk0:kE l c=k0
    generalize hu0:uE l c=u0
    generalize hok:dOk l c=ok
    generalize hsp:spA l=sp
    generalize hnx:nxt=nx
    generalize hN:Q7 l=N
    generalize hEV:Q2X (evK l c true k)=EV
    generalize hT:Q5 p tys (Q81 kd tx p0 p0 n0 f0 k0 u0 ok sp nx) _ _ _ _=T
    cbv at hT
    subst hT
    simp only[Tree.ok,Q1,S0]
    subst hp hU hkd htx hp0 hn0 hf0 hk0 hu0 hok hsp hnx hN hEV
    refine⟨fun h=>?_,fun h=>?_⟩
    ·have hkn1:k<n:=by
      by_cases h9:k<n
      ·exact h9
      ·rw[hout k h9] at h;exact absurd h (by decide)
     have hx1:=hkE k hk0 hkn1
     have cx:=hnext k hk0 hkn1
     rw[hx1] at cx
     rw[hx1]
     refine⟨hkid k hk0 hkn1,hbd k _ (hsl k hk0 hkn1),cx,k+1,⟨by omega,by omega⟩,by omega,[some 0,some 3,some 2],_,rfl,?_⟩
     have e9:std.app (Q2X (evK l c true k)) (spA l (nE l c k))=Q2X (evK l c true (k+1)):=(hnx k hk0 hkn1).symm
     repeat first
      |exact trivial
      |refine⟨rfl,?_⟩
      |refine⟨e9,?_⟩
      |refine⟨gI (e9),?_⟩
      |refine⟨gA (e9),?_⟩
      |refine⟨gB (e9),?_⟩
      |refine⟨gR (e9),?_⟩
      |refine⟨gT (e9),?_⟩
    ·have hkn1:k=n:=by
      by_cases h9:k<n
      ·rw[hin k hk0 h9] at h;exact absurd h (by decide)
      ·omega
     have hR2:=hend k hkn1
     rw[if_pos trivial]
     generalize hp:std=p
     generalize hU:upO (Q7 l) c=U
     generalize hkd:Q19 l=kd
     generalize htx:prA l=tx
     generalize hp0:pE l c=p0
     generalize hn0:nE l c=n0
     generalize hf0:fE l c=f0
     generalize hk0:kE l c=k0
     generalize hu0:uE l c=u0
     generalize hok:dOk l c=ok
     generalize hsp:spA l=sp
     generalize hnx:nxt=nx
     generalize hN:Q7 l=N
     generalize hEV:Q2X (evK l c true k)=EV
     generalize hT:Q5 p tys (Q81 kd tx p0 p0 n0 f0 k0 u0 ok sp nx) _ _ _ _=T
     cbv at hT
     subst hT
     simp only[Tree.ok,Q1,S0]
     subst hp hU hkd htx hp0 hn0 hf0 hk0 hu0 hok hsp hnx hN hEV
     have e9:R=evK l c true k:=by rw[hR2,hsp];simp
     rw[e9]
     exact⟨fun h9=>absurd h9 (by decide),fun _=>.pure rfl (.inl rfl)⟩

  ·have hk:(decide (Q19 l cn=21):Bool)≠false:=fun h=>by
    have hk:(!(decide (Q19 l cn=21)))=false:=hk
    rw[h] at hk;exact absurd hk (by decide)
   have h21:Q19 l cn=21:=by
    by_cases h:Q19 l cn=21
    ·exact h
    ·exact absurd (decide_eq_false h) hk
   rw[if_neg (fun h=>h.1 h21)] at hsp
   refine⟨fun ht=>?_,fun ht=>?_⟩
   ·exact absurd ht (by decide)

   refine⟨cD,?_⟩
   refine Q1r (cs:=Q81 (Q19 l) (prA l) (pE l c) (pE l c) (nE l c) (fE l c) (kE l c) (uE l c) (dOk l c) (spA l) nxt) (by kernel_rfl) (X:=Int) (fun k=>⟨[(1,.val (.bool true)),(2,.box 0 0),(5,.row 2 0),(6,.box 1 0),(7,.val (.bool (dOk l c k)))],[.box [.opt (.ref [.slc 6 (Q7 l)]),.val (.int .i64 cn),.val (.int .i64 cf),.val (.int .i64 ck),.opt (upO (Q7 l) c)],.box [.opt (pE l c k),.val (.int .i64 (nE l c k)),.val (.int .i64 (fE l c k)),.val (.int .i64 (kE l c k)),.opt (uE l c k)],.row 47 3 false 0 (Q2X (evK l c true k))]⟩) (fun k=>0≤k∧k≤n) (fun k=>(n-k).toNat) 0 ?_ ?_ ?_
   ·have:=hn.eq
    exact⟨Int.le_refl 0,by omega⟩
   ·refine⟨[some 0,some 1,none],_,rfl,?_⟩
    have e0:Q2X (evK l c true 0)=[]:=rfl
    rw[e0]
    repeat first
     |exact trivial
     |refine⟨rfl,?_⟩
   ·rintro k ⟨hk0,hk1⟩
    have hk0:0≤k:=hk0
    have hk1:k≤n:=hk1
    generalize hp:std=p
    generalize hU:upO (Q7 l) c=U
    generalize hkd:Q19 l=kd
    generalize htx:prA l=tx
    generalize hp0:pE l c=p0
    generalize hn0:nE l c=n0
    generalize hf0:fE l c=f0
    generalize hk0:kE l c=k0
    generalize hu0:uE l c=u0
    generalize hok:dOk l c=ok
    generalize hsp:spA l=sp
    generalize hnx:nxt=nx
    generalize hN:Q7 l=N
    generalize hEV:Q2X (evK l c true k)=EV
    generalize hT:Q5 p tys (Q81 kd tx p0 p0 n0 f0 k0 u0 ok sp nx) _ _ _ _=T
    cbv at hT
    subst hT
    simp only[Tree.ok,Q1,S0]
    subst hp hU hkd htx hp0 hn0 hf0 hk0 hu0 hok hsp hnx hN hEV
    refine⟨fun h=>?_,fun h=>?_⟩
    ·have hkn1:k<n:=by
      by_cases h9:k<n
      ·exact h9
      ·rw[hout k h9] at h;exact absurd h (by decide)
     have hx1:=hkE k hk0 hkn1
     have cx:=hnext k hk0 hkn1
     rw[hx1] at cx
     rw[hx1]
     refine⟨hkid k hk0 hkn1,hbd k _ (hsl k hk0 hkn1),cx,k+1,⟨by omega,by omega⟩,by omega,[some 0,some 3,some 2],_,rfl,?_⟩
     have e9:std.app (Q2X (evK l c true k)) (spA l (nE l c k))=Q2X (evK l c true (k+1)):=(hnx k hk0 hkn1).symm
     repeat first
      |exact trivial
      |refine⟨rfl,?_⟩
      |refine⟨e9,?_⟩
      |refine⟨gI (e9),?_⟩
      |refine⟨gA (e9),?_⟩
      |refine⟨gB (e9),?_⟩
      |refine⟨gR (e9),?_⟩
      |refine⟨gT (e9),?_⟩
    ·have hkn1:k=n:=by
      by_cases h9:k<n
      ·rw[hin k hk0 h9] at h;exact absurd h (by decide)
      ·omega
     have hR2:=hend k hkn1
     rw[if_pos trivial]
     generalize hp:std=p
     generalize hU:upO (Q7 l) c=U
     generalize hkd:Q19 l=kd
     generalize htx:prA l=tx
     generalize hp0:pE l c=p0
     generalize hn0:nE l c=n0
     generalize hf0:fE l c=f0
     generalize hk0:kE l c=k0
     generalize hu0:uE l c=u0
     generalize hok:dOk l c=ok
     generalize hsp:spA l=sp
     generalize hnx:nxt=nx
     generalize hN:Q7 l=N
     generalize hEV:Q2X (evK l c true k)=EV
     generalize hT:Q5 p tys (Q81 kd tx p0 p0 n0 f0 k0 u0 ok sp nx) _ _ _ _=T
     cbv at hT
     subst hT
     simp only[Tree.ok,Q1,S0]
     subst hp hU hkd htx hp0 hn0 hf0 hk0 hu0 hok hsp hnx hN hEV
     have e9:R=evK l c true k:=by rw[hR2,hsp];simp
     rw[e9]
     exact⟨fun h9=>absurd h9 (by decide),fun _=>.pure rfl (.inl rfl)⟩

 |false =>
  refine fnO false (cs:=Q81 (Q19 l) (prA l) (pE l c) (pE l c) (nE l c) (fE l c) (kE l c) (uE l c) (dOk l c) (spA l) nxt) (ord:=fun id=>match id with|3=> Qme|_=>.nil) func7 rfl (by kernel_rfl) ?_
  intro w0 g0
  generalize hp:std=p
  generalize hU:upO (Q7 l) c=U
  generalize hkd:Q19 l=kd
  generalize htx:prA l=tx
  generalize hp0:pE l c=p0
  generalize hn0:nE l c=n0
  generalize hf0:fE l c=f0
  generalize hk0:kE l c=k0
  generalize hu0:uE l c=u0
  generalize hok:dOk l c=ok
  generalize hsp:spA l=sp
  generalize hnx:nxt=nx
  generalize hN:Q7 l=N
  generalize hT:Q5 p tys (Q81 kd tx p0 p0 n0 f0 k0 u0 ok sp nx) _ _ _ _=T
  cbv at hT
  subst hT
  simp only[Tree.ok,Q1,S0]
  subst hp hU hkd htx hp0 hn0 hf0 hk0 hu0 hok hsp hnx hN
  refine⟨cK,fun hk=>⟨fun ht=>?_,fun ht=>?_⟩,fun hk=>?_⟩
  ·have hne:¬ Q19 l cn=21:=fun h=>by
    have hk:(!(decide (Q19 l cn=21)))=true:=hk
    rw[h] at hk;exact absurd hk (by decide)
   rw[if_pos ⟨hne,rfl⟩] at hsp
   have e:Q2X R=[.agg [.val (.int .i64 2),.val (.int .i64 (Q19 l cn)),.slc 1 (prA l cn)]]:=by
    rw[hsp,hpr];rfl
   rw[e]
   exact⟨⟨cK,cT,.pure rfl (.inl rfl)⟩,cK,cT,.pure rfl (.inl rfl)⟩
  ·exact absurd ht (by decide)
  ·have hk:(decide (Q19 l cn=21):Bool)≠false:=fun h=>by
    have hk:(!(decide (Q19 l cn=21)))=false:=hk
    rw[h] at hk;exact absurd hk (by decide)
   have h21:Q19 l cn=21:=by
    by_cases h:Q19 l cn=21
    ·exact h
    ·exact absurd (decide_eq_false h) hk
   rw[if_neg (fun h=>h.1 h21)] at hsp
   refine⟨fun ht=>⟨hb0,?_⟩,fun ht=>absurd ht (by decide)⟩

   refine⟨cD,?_⟩
   refine Q1r (cs:=Q81 (Q19 l) (prA l) (pE l c) (pE l c) (nE l c) (fE l c) (kE l c) (uE l c) (dOk l c) (spA l) nxt) (by kernel_rfl) (X:=Int) (fun k=>⟨[(1,.val (.bool false)),(2,.box 0 0),(5,.row 2 0),(6,.box 1 0),(7,.val (.bool (dOk l c k)))],[.box [.opt (.ref [.slc 6 (Q7 l)]),.val (.int .i64 cn),.val (.int .i64 cf),.val (.int .i64 ck),.opt (upO (Q7 l) c)],.box [.opt (pE l c k),.val (.int .i64 (nE l c k)),.val (.int .i64 (fE l c k)),.val (.int .i64 (kE l c k)),.opt (uE l c k)],.row 47 3 false 0 (Q2X (evK l c false k))]⟩) (fun k=>0≤k∧k≤n) (fun k=>(n-k).toNat) 0 ?_ ?_ ?_
   ·have:=hn.eq
    exact⟨Int.le_refl 0,by omega⟩
   ·refine⟨[some 0,some 3,some 2],_,rfl,?_⟩
    have e0:Q2X (evK l c false 0)=[.agg [.val (.int .i64 1),.val (.int .i64 0),.val (.slice none 0 0)]]:=rfl
    rw[e0]
    repeat first
     |exact trivial
     |refine⟨rfl,?_⟩
   ·rintro k ⟨hk0,hk1⟩
    have hk0:0≤k:=hk0
    have hk1:k≤n:=hk1
    generalize hp:std=p
    generalize hU:upO (Q7 l) c=U
    generalize hkd:Q19 l=kd
    generalize htx:prA l=tx
    generalize hp0:pE l c=p0
    generalize hn0:nE l c=n0
    generalize hf0:fE l c=f0
    generalize hk0:kE l c=k0
    generalize hu0:uE l c=u0
    generalize hok:dOk l c=ok
    generalize hsp:spA l=sp
    generalize hnx:nxt=nx
    generalize hN:Q7 l=N
    generalize hEV:Q2X (evK l c false k)=EV
    generalize hT:Q5 p tys (Q81 kd tx p0 p0 n0 f0 k0 u0 ok sp nx) _ _ _ _=T
    cbv at hT
    subst hT
    simp only[Tree.ok,Q1,S0]
    subst hp hU hkd htx hp0 hn0 hf0 hk0 hu0 hok hsp hnx hN hEV
    refine⟨fun h=>?_,fun h=>?_⟩
    ·have hkn1:k<n:=by
      by_cases h9:k<n
      ·exact h9
      ·rw[hout k h9] at h;exact absurd h (by decide)
     have hx1:=hkE k hk0 hkn1
     have cx:=hnext k hk0 hkn1
     rw[hx1] at cx
     rw[hx1]
     refine⟨hkid k hk0 hkn1,hbd k _ (hsl k hk0 hkn1),cx,k+1,⟨by omega,by omega⟩,by omega,[some 0,some 3,some 2],_,rfl,?_⟩
     have e9:std.app (Q2X (evK l c false k)) (spA l (nE l c k))=Q2X (evK l c false (k+1)):=(hnx k hk0 hkn1).symm
     repeat first
      |exact trivial
      |refine⟨rfl,?_⟩
      |refine⟨e9,?_⟩
      |refine⟨gI (e9),?_⟩
      |refine⟨gA (e9),?_⟩
      |refine⟨gB (e9),?_⟩
      |refine⟨gR (e9),?_⟩
      |refine⟨gT (e9),?_⟩
    ·have hkn1:k=n:=by
      by_cases h9:k<n
      ·rw[hin k hk0 h9] at h;exact absurd h (by decide)
      ·omega
     have hR2:=hend k hkn1
     rw[if_pos trivial]
     generalize hp:std=p
     generalize hU:upO (Q7 l) c=U
     generalize hkd:Q19 l=kd
     generalize htx:prA l=tx
     generalize hp0:pE l c=p0
     generalize hn0:nE l c=n0
     generalize hf0:fE l c=f0
     generalize hk0:kE l c=k0
     generalize hu0:uE l c=u0
     generalize hok:dOk l c=ok
     generalize hsp:spA l=sp
     generalize hnx:nxt=nx
     generalize hN:Q7 l=N
     generalize hEV:Q2X (evK l c false k)=EV
     generalize hT:Q5 p tys (Q81 kd tx p0 p0 n0 f0 k0 u0 ok sp nx) _ _ _ _=T
     cbv at hT
     subst hT
     simp only[Tree.ok,Q1,S0]
     subst hp hU hkd htx hp0 hn0 hf0 hk0 hu0 hok hsp hnx hN hEV
     have e9:R=evK l c false k++[⟨3,0,[]⟩]:=by rw[hR2,hsp];rfl
     rw[e9,Qfg]
     exact⟨fun _=>⟨hbd k _ (by show 1≤3000000;omega),.pure rfl (.inl rfl)⟩,fun h9=>absurd h9 (by decide)⟩
end Go.Proofs.YthbjpdijafccjaaGreat
