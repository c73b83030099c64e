/-
  Parts of the proof, joined: Rw. Conditions: as each theorem says.
-/
import Derived.Test.YthbjpdijafccjaaGreatQE13
set_option maxRecDepth 100000
set_option maxHeartbeats 8000000
namespace Go.Proofs.YthbjpdijafccjaaGreat
open Go.RowKit Go.Lib Tryz
def IsN (n:Nat)(i:Int):Prop:=i=n
theorem IsN.eq {n:Nat}{i:Int}(h:IsN n i):i=(n:Int):=h
def Cur.el (N:List AV)(c:Cur):List AV:=[.opt (.ref [.slc 6 N]),.val (.int .i64 c.n),.val (.int .i64 c.f),.val (.int .i64 c.k),.opt (upO N c)]
def CurAt (l:List Node)(b:List UInt8)(c:Cur):Prop:=∃ pre post,b=pre++(pr l c.n++post)∧(pre.length:Int)=c.f
theorem CurAt.down {l:List Node}{b:List UInt8}{W C:Nat}{c:Cur}(ha:Ar l)(ho:∀ x∈l,Q54 x)(h:CurIn l W C c)(hb:CurAt l b c){k:Int}(h0:0≤k)(h1:k<(Qq l c).length):CurAt l b (Q2z l c k):=by
 obtain⟨pre,post,e1,e2⟩:=hb
 have hk:k.toNat<(Qq l c).length:=by omega
 have hx:(Q2z l c k).n=(Qq l c)[k.toNat]:=by show (Qq l c)[k.toNat]?.getD 0=_;rw[List.getElem?_eq_getElem hk];rfl
 have hin:=h.kids ha
 have hnb:(Qj l c.n).b=[]:=by
  have hm:Qj l c.n∈l:=by
   have hlt:c.n.toNat<l.length:=by have:=h.h0;have:=h.h1;omega
   rw[Qj,if_pos ⟨h.h0,h.h1⟩,List.getElem?_eq_getElem hlt]
   exact List.getElem_mem hlt
  rcases ho _ hm with h2|h2
  ·exact h2
  ·have h2:Qq l c=[]:=h2
   rw[h2] at hk;exact absurd hk (by simp)
 have hp:pr l c.n=(Qq l c).flatMap (pr l):=by
  rw[Qfd ha.wf h.h0 h.h1,hnb];rfl
 have hsp:Qq l c=(Qq l c).take k.toNat++((Qq l c)[k.toNat]::(Qq l c).drop (k.toNat+1)):=by
  rw[←List.drop_eq_getElem_cons hk,List.take_append_drop]
 have hpk:pr l c.n=((Qq l c).take k.toNat).flatMap (pr l)++(pr l (Qq l c)[k.toNat]++((Qq l c).drop (k.toNat+1)).flatMap (pr l)):=by
  rw[hp]
  conv=>lhs;rw[hsp]
  rw[List.flatMap_append,List.flatMap_cons]
 refine⟨pre++((Qq l c).take k.toNat).flatMap (pr l),((Qq l c).drop (k.toNat+1)).flatMap (pr l)++post,?_,?_⟩
 ·rw[e1,hpk,hx];simp only[List.append_assoc]
 ·show ((pre++_).length:Int)=c.f+Q1Z l ((Qq l c).take k.toNat)
  rw[Q7T ha.wide (fun y hy=>hin y (List.mem_of_mem_take hy)),List.length_append]
  omega
def CurB (l:List Node)(b:List UInt8)(C:Nat)(c:Cur):Prop:=CurIn l b.length C c∧CurAt l b c
theorem CurAt.cut {l:List Node}{b:List UInt8}{c:Cur}(h:CurAt l b c):(b.drop c.f.toNat).take (pr l c.n).length=pr l c.n:=by
 obtain⟨pre,post,e1,e2⟩:=h
 rw[e1,show c.f.toNat=pre.length by omega,List.drop_left,List.take_left]
def Qmk (pr:Int→List AV):Nat→List AV→List Ob→Option (AV×List Ob):=fun f args _=>match f,args with
 |43,[.opt (.ref [.slc 6 _]),.val (.int .i64 n)]=>some (.slc 1 (pr n),[])
 |_,_=>none
theorem QjW (l:List Node)(c:Cur)(h:PrOk l c.n):BCall prog 18 [.agg (c.el (Q7 l))] [] (.slc 1 (Q2 (pr l c.n))) []:=by
 have cP:=(QeT l h.len h.wf h.wide c.n h.h0 h.h1 h.p h.c).le (args:=[.opt (.ref [.slc 6 (Q7 l)]),.val (.int .i64 c.n)]) ⟨.inr (.inr (.inr rfl)),.inl rfl,trivial⟩
 rw[Cur.el]
 obtain⟨cn,hcn⟩:=exq c.n
 obtain⟨cf,hcf⟩:=exq c.f
 obtain⟨ck,hck⟩:=exq c.k
 rw[←hcn] at cP ⊢
 rw[←hcf,←hck]
 clear h
 refine fnN (cs:=Qmk (prA l)) func18 rfl (by kernel_rfl) ?_
 intro w0 g0
 generalize hp:std=p
 generalize hU:upO (Q7 l) c=U
 generalize hpr:prA l=pr
 generalize hN:Q7 l=N
 generalize hT:Q5 p tys (Qmk pr) _ _ _ _=T
 cbv at hT
 subst hT
 simp only[Tree.ok,Q1,S0]
 subst hp hU hpr hN
 exact⟨cP,.pure rfl (.inl rfl)⟩
theorem QkA (l:List Node)(c:Cur)(k:Int)(h0:0≤k)(h1:k<(Qq l c).length)(hw:∀ n,0≤QT l n)(ok:CurOk l c) :
  BCall prog 19 [.agg (c.el (Q7 l)),.val (.int .i64 k)] [] (.tup [.agg ((Q2z l c k).el (Q7 l)),.val (.bool true)]) [] :=
 ((QfA l c k h0 h1 ok.n hw ok.s ok.f0 ok.f1).le (args:=[.agg (c.el (Q7 l)),.val (.int .i64 k)]) ⟨⟨.inr (.inr (.inr rfl)),.inl rfl,.inl rfl,.inl rfl,.inl rfl,trivial⟩,.inl rfl,trivial⟩).res (res':=.tup [.agg ((Q2z l c k).el (Q7 l)),.val (.bool true)]) ⟨⟨.inr (.inr (.inl ⟨rfl,trivial⟩)),.inl rfl,.inl rfl,.inl rfl,.inl rfl,trivial⟩,.inl rfl,trivial⟩
end Go.Proofs.YthbjpdijafccjaaGreat
