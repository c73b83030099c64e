/-
  Parts of the proof, joined: Vd. Conditions: as each theorem says.
-/
import Derived.Test.YthbjpdijafccjaaGreatQE15
import Derived.Test.YthbjpdijafccjaaGreatQE05
set_option maxRecDepth 100000
set_option maxHeartbeats 8000000
namespace Go.Proofs.YthbjpdijafccjaaGreat
open Go.RowKit Go.Lib Tryz
theorem Qip (l:List Int)(hl:l.length≤1000000000)(f:Int)(h0:0≤f)(h1:f≤l.length):BCall prog 131 [.slc 1 (Q0 l),.val (.int .i64 f)] [] (.slc 1 (Q0 (qL l f.toNat))) []:=by
 refine BCall.hand (enters_of func131 (by kernel_rfl) rfl) fun w g vs M hL=>?_
 obtain⟨v1,vs1,rfl,h1',hL⟩:=Q1d hL
 obtain⟨v2,vs2,rfl,h2',hL⟩:=Q1d hL
 obtain rfl:=Q3c hL
 obtain⟨A,c,rfl,hr⟩:=Q4q h1' M
 obtain rfl:=Q3f h2'
 have:=Qe2 _ A _ c l f.toNat w hr (by omega) hl
 rw[Int.toNat_of_nonneg h0] at this
 refine this.mono fun e w' ⟨b,h,hr2,hb⟩=>⟨_,h,hb,?_⟩
 have hr3:Rd w' (fun b=>w.heap.size≤b∧b<w'.heap.size) 1 (some ⟨b,0,none⟩) l.length l.length (rc (qL l f.toNat)) :=
  ⟨hr2.len,hr2.le,hr2.max,hr2.nil,fun h0=>by
   obtain⟨b',o',e',hS,hc⟩:=hr2.at_ h0
   refine⟨b',o',e',⟨hS,?_⟩,hc⟩
   have hl2:(rc (qL l f.toNat)).length=l.length:=by simp[rc,qL,qTo]
   exact World.block_lt_of_cell? w' _ (hc 0 _ (List.getElem?_eq_getElem (by omega)))⟩
 refine Qeb hr3 (fun b o hb=>.inr hb) (by rw[Qi,qL,QeU]) (fun x hx=>by obtain⟨n,_,rfl⟩:=List.mem_map.1 hx;rfl) (fun x hx=>by cases hx;exact⟨_,_,rfl⟩) ?_
 have e:Q0 (qL l f.toNat)=(rc (qL l f.toNat)).map .val:=by simp[Q0,rc,Qfn]
 rw[e,Q9E]
 refine⟨by simp,fun j y u hy hu=>?_⟩
 rw[List.getElem?_map,hy] at hu
 obtain rfl:AV.val y=u:=by simpa using hu
 obtain⟨n,_,rfl⟩:=List.mem_map.1 (List.mem_of_getElem? hy)
 exact PRel.val _ rfl
def Qas (l:List Int)(f:Nat)(a b:Int)(i:Nat):Bool:=decide (Qac l f (i-f)=0)&&(decide (rAt l i=a)||decide (rAt l i=b))
def frF (l:List Int)(f:Nat)(a b:Int)(k:Nat):Option Nat:=(List.range' k (l.length-k)).find? (Qas l f a b)
theorem Q7u (l:List Int)(f:Nat)(a b:Int){k:Nat}(h:¬ k<l.length):frF l f a b k=none:=by
 rw[frF,show l.length-k=0 by omega];rfl
theorem Q5Y (l:List Int)(f:Nat)(a b:Int){k:Nat}(h:k<l.length):frF l f a b k=if Qas l f a b k=true then some k else frF l f a b (k+1):=by
 rw[frF,show l.length-k=(l.length-(k+1))+1 by omega,List.range'_succ,List.find?_cons]
 cases Qas l f a b k<;>rfl
def Q88 (l:List Int)(s:Bool)(k:Nat):Option Nat:=if (QJ l s k).2=true∨(QJ l s k).1<l.length then some (QJ l s k).1 else none
def QeG (l:List Int)(s:Bool)(q:Int)(k:Nat):Option Nat:=if (Q2i l q k).2=true then Q88 l s (Q2i l q k).1 else none
def isQ (q:Int):Prop:=q=34∨q=39
def Q98 (s:Bool):Int:=if s then 60 else 62
theorem QkO (s:Bool):Q98 s=60∨Q98 s=62:=by cases s<;>simp[Q98]
theorem Qm5 (l:List Int)(f:Nat)(s:Bool):∀ (n m:Nat),l.length-(f+m)≤n →
  (qSt l f m=0→frF l f (Q98 s) 62 (f+m)=Q88 l s (f+m))∧(isQ (qSt l f m)→frF l f (Q98 s) 62 (f+m)=QeG l s (qSt l f m) (f+m)):=by
 intro n
 induction n with
 |zero =>
  intro m h
  have hk:¬ f+m<l.length:=by omega
  refine⟨fun _=>?_,fun _=>?_⟩
  ·rw[Q7u l f _ _ hk,Q88,Q2b l s _ hk,if_neg (by simp)]
  ·rw[Q7u l f _ _ hk,QeG,Q3B l _ _ hk,if_neg (by simp)]
 |succ n ih =>
  intro m h
  by_cases hk:f+m<l.length
  ·obtain⟨ih1,ih2⟩:=ih (m+1) (by omega)
   rw[←Nat.add_assoc] at ih1 ih2
   have hg:l[f+m]?.getD 0=l[f+m]:=by rw[List.getElem?_eq_getElem hk];rfl
   have hra:rAt l ((f+m:Nat):Int)=l[f+m]:=QbQ hk
   have hs:qSt l f (m+1)=(Q2G (qSt l f m) l[f+m]).1:=by rw[qSt,hg]
   have ho:Qac l f (f+m-f)=(Q2G (qSt l f m) l[f+m]).2:=by rw[Qac,show f+m-f=m by omega,hg]
   have hlo:=QkO s
   rw[Q5Y l f _ _ hk,Qas,ho,hra]
   rw[hs] at ih1 ih2
   generalize hr:l[f+m]=r at *
   refine⟨fun h0=>?_,fun hq=>?_⟩
   ·rw[h0] at ih1 ih2 ⊢
    by_cases hquo:r=34∨r=39
    ·have e:Q2G 0 r=(r,0):=by rw[Q2G,if_pos ⟨rfl,hquo⟩]
     rw[e] at ih1 ih2 ⊢
     have hnh:¬ ((decide ((0:Int)=0)&&(decide (r=Q98 s)||decide (r=62)))=true):=by
      simp only[decide_true,Bool.true_and,Bool.or_eq_true,decide_eq_true_eq]
      omega
     rw[if_neg hnh,ih2 hquo]
     have hqq:Q3a l[f+m]=true:=by rw[hr];rcases hquo with rfl|rfl<;>rfl
     rw[Q88,Q4w l s _ hk hqq,QeG]
     have hqd:Q12 l (f+m)=Q2i l r (f+m+1):=by rw[Q12,List.getD_eq_getElem?_getD,List.getElem?_eq_getElem hk,←hr];rfl
     rw[hqd]
     cases hb:(Q2i l r (f+m+1)).2 with
     |true=>rw[if_pos rfl];rfl
     |false =>
      rw[if_neg (by decide)]
      have hend:(Q2i l r (f+m+1)).1=l.length:=by
       have key:∀ (n k:Nat),l.length-k≤n→(Q2i l r k).2=false→(Q2i l r k).1=l.length:=by
        intro n
        induction n with
        |zero=>intro k h1 h2;rw[Q3B l r k (by omega)]
        |succ n ih3 =>
         intro k h1 h2
         by_cases h3:k<l.length
         ·by_cases h4:l[k]=r
          ·rw[Q5V l r k h3 h4] at h2;cases h2
          ·rw[Q5f l r k h3 h4] at h2 ⊢
           exact ih3 _ (by omega) h2
         ·rw[Q3B l r k h3]
       exact key _ _ (Nat.le_refl _) hb
      rw[hend,Q2b l s _ (by omega),if_neg (by simp)]
    ·have e:Q2G 0 r=(0,0):=by rw[Q2G,if_neg (fun h=>hquo h.2),if_neg (fun h=>h.1 rfl)]
     rw[e] at ih1 ⊢
     have hnq:Q3a l[f+m]=false:=by
      rw[hr];simp only[Q3a,Bool.or_eq_false_iff,beq_eq_false_iff_ne];omega
     by_cases h62:r=62
     ·subst h62
      rw[if_pos (by simp),Q88,Q5h l s _ hk hr,if_pos (.inl rfl)]
     ·by_cases h60:r=60∧s=true
      ·obtain⟨rfl,rfl⟩:=h60
       rw[if_pos (by decide),Q88,Q6L l _ hk hr,if_pos (.inr hk)]
      ·have hnh:¬ ((decide ((0:Int)=0)&&(decide (r=Q98 s)||decide (r=62)))=true):=by
        simp only[decide_true,Bool.true_and,Bool.or_eq_true,decide_eq_true_eq]
        rintro (h|h)
        ·cases s with
         |true=>exact h60 ⟨h,rfl⟩
         |false=>exact h62 h
        ·exact h62 h
       rw[if_neg hnh,ih1 rfl,Q88,Q88,Q44 l s _ hk hnq (by rw[hr];exact h62) (by rw[hr];exact h60)]
   ·generalize qSt l f m=q at *
    have hq0:q≠0:=by rcases hq with rfl|rfl<;>decide
    by_cases hrq:r=q
    ·have e:Q2G q r=(0,0):=by rw[Q2G,if_neg (fun h=>hq0 h.1),if_pos ⟨hq0,hrq⟩]
     rw[e] at ih1 ⊢
     have hnh:¬ ((decide ((0:Int)=0)&&(decide (r=Q98 s)||decide (r=62)))=true):=by
      simp only[decide_true,Bool.true_and,Bool.or_eq_true,decide_eq_true_eq]
      rcases hq with rfl|rfl<;>omega
     rw[if_neg hnh,ih1 rfl,QeG,Q5V l q _ hk (by rw[hr];exact hrq),if_pos rfl]
    ·have e:Q2G q r=(q,q):=by rw[Q2G,if_neg (fun h=>hq0 h.1),if_neg (fun h=>hrq h.2)]
     rw[e] at ih2 ⊢
     have hnh:¬ ((decide (q=0)&&(decide (r=Q98 s)||decide (r=62)))=true):=by
      rw[decide_eq_false hq0];simp
     rw[if_neg hnh,ih2 hq,QeG,QeG,Q5f l q _ hk (by rw[hr];exact hrq)]
  ·refine⟨fun _=>?_,fun _=>?_⟩
   ·rw[Q7u l f _ _ hk,Q88,Q2b l s _ hk,if_neg (by simp)]
   ·rw[Q7u l f _ _ hk,QeG,Q3B l _ _ hk,if_neg (by simp)]
theorem Qd5 (l:List Int)(f:Nat)(s:Bool):frF l f (Q98 s) 62 f=Q88 l s f:=(Qm5 l f s l.length 0 (by omega)).1 rfl
def Q9P (l:List Int)(f:Nat)(a b:Int):Int:=match frF l f a b f with
 |none=>-1
 |some j=>(j:Int)
def QcQ (Q:List AV):Nat→List AV→List Ob→Option (AV×List Ob):=fun f args _=>match f,args with
 |131,[.slc 1 _,.val (.int .i64 _)]=>some (.slc 1 Q,[])
 |_,_=>none
theorem Qms (l:List Int)(f:Nat){i:Int}(h0:(f:Int)≤i)(h1:i<l.length):(qL l f)[i.toNat]?.getD 0=Qac l f (i.toNat-f):=by
 rw[qL,qTo,List.getElem?_map,List.getElem?_range (by omega)]
 show (if f≤i.toNat∧i.toNat<l.length then _ else (0:Int))=_
 rw[if_pos ⟨by omega,by omega⟩]
theorem QfG (l:List Int)(hl:l.length≤1000000000)(f:Int)(h0:0≤f)(h1:f≤l.length)(a b:Int):BCall prog 114 [.slc 1 (Q0 l),.val (.int .i64 f),.val (.int .i32 a),.val (.int .i32 b)] [] (.val (.int .i64 (Q9P l f.toNat a b))) []:=by
 have cQ:=Qip l hl f h0 h1
 obtain⟨n,hn⟩:=Qy l
 have hxl:=Qi l
 obtain⟨fn,hfn⟩:=exq f.toNat
 rw[←hfn] at cQ ⊢
 have hqa:∀ i:Int,f≤i→i<n→(qL l fn)[i.toNat]?.getD 0=Qac l fn (i.toNat-fn):=fun i hi hi2=>Qms l fn (by omega) (by have:=hn.eq;omega)
 have hql:(qL l fn).length=l.length:=QeU l fn _
 have hqx:=Qi (qL l fn)
 generalize qL l fn=qs at cQ hqa hql hqx
 obtain⟨R,hR⟩:=exq (Q9P l fn a b:Int)
 rw[←hR]
 rw[Q9P] at hR
 have hfn1:f≤n:=by have:=hn.eq;omega
 have hn9:n≤1000000000:=by have:=hn.eq;omega
 refine fnN (cs:=QcQ (Q0 qs)) func114 rfl (by kernel_rfl) ?_
 intro w0 g0
 generalize hp:std=p,hrx:Q0 l=rx,hQ:Q0 qs=Q
 generalize hT:Q5 p tys (QcQ Q) _ _ _ _=T
 cbv at hT
 subst hT
 simp only[Tree.ok,Q1,S0]
 subst hp hrx hQ
 refine⟨cQ,?_⟩
 refine Q1r (cs:=QcQ (Q0 qs)) (by kernel_rfl) (X:=Int) (fun i=>⟨[(0,.slc 1 (Q0 l)),(2,.val (.int .i32 a)),(3,.val (.int .i32 b)),(9,.slc 1 (Q0 qs)),(10,.val (.int .i64 i))],[]⟩) (fun i=>f≤i∧i≤n∧frF l fn a b i.toNat=frF l fn a b fn) (fun i=>(n-i).toNat) f ?_ ?_ ?_
 ·exact⟨Int.le_refl _,hfn1,by rw[hfn]⟩
 ·refine⟨[],_,rfl,?_⟩
  repeat first
   |exact trivial
   |refine⟨rfl,?_⟩
 ·rintro i ⟨hi0,hin,hfr⟩
  have hi0:f≤i:=hi0
  have hin:i≤n:=hin
  have hfr:frF l fn a b i.toNat=frF l fn a b fn:=hfr
  rcases Int.lt_or_eq_of_le hin with hlt|heq
  ·have ai:=Qv (l:=l) (i:=i) (by omega) (by have:=hn.eq;omega)
   have aq:=Qv (l:=qs) (i:=i) (by omega) (by have:=hn.eq;omega)
   have hqi:=hqa i hi0 hlt
   have hri:l[i.toNat]?.getD 0=rAt l i:=rfl
   have hil:i.toNat<l.length:=by have:=hn.eq;omega
   have hitI:Qas l fn a b i.toNat=(decide (qs[i.toNat]?.getD 0=0)&&(decide (l[i.toNat]?.getD 0=a)||decide (l[i.toNat]?.getD 0=b))):=by
    rw[Qas,hqi,rAt,Int.toNat_natCast]
   by_cases cq:qs[i.toNat]?.getD 0=0
   ·by_cases ca:l[i.toNat]?.getD 0=a
    ·have hR2:R=i:=by
      have hh:Qas l fn a b i.toNat=true:=by rw[hitI];rw[decide_eq_true cq,decide_eq_true ca];rfl
      rw[hR,←hfr,Q5Y l fn a b (by omega),if_pos hh]
      show ((i.toNat:Nat):Int)=i
      omega
     clear hfr hR hitI hqi hri
     generalize hp:std=p,hrx:Q0 l=rx,hQ:Q0 qs=Q
     generalize hT:Q5 p tys (QcQ Q) _ _ _ _=T
     cbv at hT
     subst hT
     simp only[Tree.ok,Q1,S0]
     subst hp hrx hQ
     have hxn:=QV hn
     have hqn:(((Q0 qs).length:Nat):Int)=n:=by have:=hn.eq;omega
     repeat' first
      |(with_reducible refine And.intro (fun hx=>absurd hx (by first|(try simp[std,S1,hxn,hqn,ai,aq,hlt,hi0,h0,cq,ca])<;>omega|omega)) (fun _=>?_))
      |(with_reducible refine And.intro (fun _=>?_) (fun hx=>absurd hx (by first|(try simp[std,S1,hxn,hqn,ai,aq,hlt,hi0,h0,cq,ca])<;>omega|omega)))
      |(with_reducible refine And.intro (by first|(try simp[std,S1,hxn,hqn,ai,aq,hlt,hi0,h0,cq,ca])<;>omega|omega) ?_)
      |(with_reducible refine And.intro ?_ ?_)
      |(with_reducible intro hb)
     all_goals
      generalize hp:std=p,hrx:Q0 l=rx,hQ:Q0 qs=Q
      generalize hT:Q4N p tys _ _ _ _=T
      cbv at hT
      subst hT
      simp only[Tree.ok,Q1,S0]
      subst hp hrx hQ
      refine .pure rfl (.inl ?_)
      rw[hR2]
    ·by_cases cb:l[i.toNat]?.getD 0=b
     ·have hR2:R=i:=by
       have hh:Qas l fn a b i.toNat=true:=by rw[hitI];rw[decide_eq_true cq,decide_eq_true cb,decide_eq_false ca];rfl
       rw[hR,←hfr,Q5Y l fn a b (by omega),if_pos hh]
       show ((i.toNat:Nat):Int)=i
       omega
      clear hfr hR hitI hqi hri
      generalize hp:std=p,hrx:Q0 l=rx,hQ:Q0 qs=Q
      generalize hT:Q5 p tys (QcQ Q) _ _ _ _=T
      cbv at hT
      subst hT
      simp only[Tree.ok,Q1,S0]
      subst hp hrx hQ
      have hxn:=QV hn
      have hqn:(((Q0 qs).length:Nat):Int)=n:=by have:=hn.eq;omega
      repeat' first
       |(with_reducible refine And.intro (fun hx=>absurd hx (by first|(try simp[std,S1,hxn,hqn,ai,aq,hlt,hi0,h0,cq,ca,cb])<;>omega|omega)) (fun _=>?_))
       |(with_reducible refine And.intro (fun _=>?_) (fun hx=>absurd hx (by first|(try simp[std,S1,hxn,hqn,ai,aq,hlt,hi0,h0,cq,ca,cb])<;>omega|omega)))
       |(with_reducible refine And.intro (by first|(try simp[std,S1,hxn,hqn,ai,aq,hlt,hi0,h0,cq,ca,cb])<;>omega|omega) ?_)
       |(with_reducible refine And.intro ?_ ?_)
       |(with_reducible intro hb)
      all_goals
       generalize hp:std=p,hrx:Q0 l=rx,hQ:Q0 qs=Q
       generalize hT:Q4N p tys _ _ _ _=T
       cbv at hT
       subst hT
       simp only[Tree.ok,Q1,S0]
       subst hp hrx hQ
       refine .pure rfl (.inl ?_)
       rw[hR2]
     ·have hst:frF l fn a b i.toNat=frF l fn a b (i+1).toNat:=by
       have hh:¬ Qas l fn a b i.toNat=true:=by rw[hitI];rw[decide_eq_true cq,decide_eq_false ca,decide_eq_false cb];simp
       rw[Q5Y l fn a b (by omega),if_neg hh,show (i+1).toNat=i.toNat+1 by omega]
      rw[hfr] at hst
      clear hfr hR hitI hqi hri
      generalize hp:std=p,hrx:Q0 l=rx,hQ:Q0 qs=Q
      generalize hT:Q5 p tys (QcQ Q) _ _ _ _=T
      cbv at hT
      subst hT
      simp only[Tree.ok,Q1,S0]
      subst hp hrx hQ
      have hxn:=QV hn
      have hqn:(((Q0 qs).length:Nat):Int)=n:=by have:=hn.eq;omega
      repeat' first
       |(with_reducible refine And.intro (fun hx=>absurd hx (by first|(try simp[std,S1,hxn,hqn,ai,aq,hlt,hi0,h0,cq,ca,cb])<;>omega|omega)) (fun _=>?_))
       |(with_reducible refine And.intro (fun _=>?_) (fun hx=>absurd hx (by first|(try simp[std,S1,hxn,hqn,ai,aq,hlt,hi0,h0,cq,ca,cb])<;>omega|omega)))
       |(with_reducible refine And.intro (by first|(try simp[std,S1,hxn,hqn,ai,aq,hlt,hi0,h0,cq,ca,cb])<;>omega|omega) ?_)
       |(with_reducible refine And.intro ?_ ?_)
       |(with_reducible intro hb)
      all_goals
       refine⟨i+1,⟨by omega,by omega,hst.symm⟩,by omega,[],_,rfl,?_⟩
       repeat first
        |exact trivial
        |refine⟨rfl,?_⟩
   ·have hst:frF l fn a b i.toNat=frF l fn a b (i+1).toNat:=by
     have hh:¬ Qas l fn a b i.toNat=true:=by rw[hitI];rw[decide_eq_false cq];simp
     rw[Q5Y l fn a b (by omega),if_neg hh,show (i+1).toNat=i.toNat+1 by omega]
    rw[hfr] at hst
    clear hfr hR hitI hqi hri
    generalize hp:std=p,hrx:Q0 l=rx,hQ:Q0 qs=Q
    generalize hT:Q5 p tys (QcQ Q) _ _ _ _=T
    cbv at hT
    subst hT
    simp only[Tree.ok,Q1,S0]
    subst hp hrx hQ
    have hxn:=QV hn
    have hqn:(((Q0 qs).length:Nat):Int)=n:=by have:=hn.eq;omega
    repeat' first
     |(with_reducible refine And.intro (fun hx=>absurd hx (by first|(try simp[std,S1,hxn,hqn,ai,aq,hlt,hi0,h0,cq])<;>omega|omega)) (fun _=>?_))
     |(with_reducible refine And.intro (fun _=>?_) (fun hx=>absurd hx (by first|(try simp[std,S1,hxn,hqn,ai,aq,hlt,hi0,h0,cq])<;>omega|omega)))
     |(with_reducible refine And.intro (by first|(try simp[std,S1,hxn,hqn,ai,aq,hlt,hi0,h0,cq])<;>omega|omega) ?_)
     |(with_reducible refine And.intro ?_ ?_)
     |(with_reducible intro hb)
    all_goals
     refine⟨i+1,⟨by omega,by omega,hst.symm⟩,by omega,[],_,rfl,?_⟩
     repeat first
      |exact trivial
      |refine⟨rfl,?_⟩
  ·have hq2:frF l fn a b i.toNat=none:=Q7u l fn a b (by have:=hn.eq;omega)
   have hR2:R=-1:=by rw[hR,←hfr,hq2]
   rw[heq]
   clear hfr hq2
   generalize hp:std=p,hrx:Q0 l=rx,hQ:Q0 qs=Q
   generalize hT:Q5 p tys (QcQ Q) _ _ _ _=T
   cbv at hT
   subst hT
   simp only[Tree.ok,Q1,S0]
   subst hp hrx hQ
   have hxn:=QV hn
   repeat' first
    |(with_reducible refine And.intro (fun hx=>absurd hx (by first|(try simp[std,S1,hxn])<;>omega|omega)) (fun _=>?_))
    |(with_reducible refine And.intro (fun _=>?_) (fun hx=>absurd hx (by first|(try simp[std,S1,hxn])<;>omega|omega)))
    |(with_reducible refine And.intro (by first|(try simp[std,S1,hxn])<;>omega|omega) ?_)
    |(with_reducible refine And.intro ?_ ?_)
    |(with_reducible intro hb)
   ·rw[if_pos trivial]
    generalize hp:std=p,hrx:Q0 l=rx,hQ:Q0 qs=Q
    generalize hT:Q5 p tys _ _ _ _ _=T
    cbv at hT
    subst hT
    simp only[Tree.ok,Q1,S0]
    subst hp hrx hQ
    refine .pure rfl (.inl ?_)
    rw[hR2]
theorem QgA (l:List Int)(s:Bool):∀ (n k:Nat),l.length-k≤n→((QJ l s k).2=true→rAt l ((QJ l s k).1:Nat)=62)∧((QJ l s k).2=false→(QJ l s k).1<l.length→rAt l ((QJ l s k).1:Nat)=60):=by
 intro n
 induction n with
 |zero =>
  intro k h
  rw[Q2b l s k (by omega)]
  exact⟨fun h2=>(by cases h2),fun _ h2=>absurd h2 (Nat.lt_irrefl _)⟩
 |succ n ih =>
  intro k h
  by_cases hk:k<l.length
  ·cases hq:Q3a l[k] with
   |true =>
    rw[Q4w l s k hk hq]
    have:=Q2w l k hk
    exact ih _ (by omega)
   |false =>
    by_cases h62:l[k]=62
    ·rw[Q5h l s k hk h62]
     exact⟨fun _=>(by rw[QbQ hk];exact h62),fun h2=>(by cases h2)⟩
    ·by_cases h60:l[k]=60∧s=true
     ·obtain⟨h60,rfl⟩:=h60
      rw[Q6L l k hk h60]
      exact⟨fun h2=>(by cases h2),fun _ _=>by rw[QbQ hk];exact h60⟩
     ·rw[Q44 l s k hk hq h62 h60]
      exact ih _ (by omega)
  ·rw[Q2b l s k hk]
   exact⟨fun h2=>(by cases h2),fun _ h2=>absurd h2 (Nat.lt_irrefl _)⟩
def Q8z (F:Int):Nat→List AV→List Ob→Option (AV×List Ob):=fun f args _=>match f,args with
 |114,[.slc 1 _,.val (.int .i64 _),.val (.int .i32 _),.val (.int .i32 _)]=>some (.val (.int .i64 F),[])
 |_,_=>none
theorem Qhc (l:List Int)(hl:l.length≤1000000000)(k:Int)(h0:0≤k)(h1:k<l.length):BCall prog 90 [.slc 1 (Q0 l),.val (.int .i64 k)] [] (Q1t ((Q1A l k.toNat).1:Nat) k ((Q1A l k.toNat).2.1:Nat) (Q1A l k.toNat).2.2) []:=by
 have cF:=QfG l hl (k+1) (by omega) (by omega) 60 62
 have hfa:=Qd5 l (k+1).toNat true
 have hav:=QgA l true l.length (k+1).toNat (by omega)
 have har:=Q2T l true l.length (k+1).toNat (by omega) (by omega)
 have hk1:(k+1).toNat=k.toNat+1:=by omega
 obtain⟨n,hn⟩:=Qy l
 have hxl:=Qi l
 obtain⟨F,hF⟩:=exq (Q9P l (k+1).toNat 60 62:Int)
 rw[←hF] at cF
 rw[Q9P,show (60:Int)=Q98 true from rfl,hfa,Q88] at hF
 rw[Q1A,←hk1]
 obtain⟨p,hp⟩:=exq ((QJ l true (k+1).toNat).1)
 obtain⟨w,hw⟩:=exq ((QJ l true (k+1).toNat).2)
 rw[←hp,←hw] at hF hav har ⊢
 have hkn:k<n:=by have:=hn.eq;omega
 have hn9:n≤1000000000:=by have:=hn.eq;omega
 obtain⟨kd,hkd⟩:=exq ((((if w=false then ((8:Nat),p,false) else if l[p-1]?=some 47 then (9,p+1,true) else (8,p+1,true)):Nat×Nat×Bool).1:Nat):Int)
 obtain⟨tt,htt⟩:=exq ((((if w=false then ((8:Nat),p,false) else if l[p-1]?=some 47 then (9,p+1,true) else (8,p+1,true)):Nat×Nat×Bool).2.1:Nat):Int)
 obtain⟨ww,hww⟩:=exq (((if w=false then ((8:Nat),p,false) else if l[p-1]?=some 47 then (9,p+1,true) else (8,p+1,true)):Nat×Nat×Bool).2.2:Bool)
 rw[←hkd,←htt,←hww,Q1t]
 by_cases hc:w=true∨p<l.length
 ·rw[if_pos hc] at hF
  have hF:F=(p:Int):=hF
  have hpl:p<l.length:=by
   rcases hc with h|h
   ·exact har.2.2 h
   ·exact h
  have hF0:k+1≤F:=by omega
  have hF1:F<n:=by have:=hn.eq;omega
  have af:=Qv (l:=l) (i:=F) (by omega) (by omega)
  have ap:=Qv (l:=l) (i:=F-1) (by omega) (by omega)
  have eF:rAt l F=rAt l (p:Int):=by rw[hF]
  cases hwv:w with
  |false =>
   have h60:l[F.toNat]?.getD 0=60:=by show rAt l F=60;rw[eF];exact hav.2 hwv hpl
   rw[hwv,if_pos rfl] at hkd htt hww
   have hkd:kd=8:=hkd
   have htt:tt=F:=by rw[hF];exact htt
   have hww:ww=false:=hww
   clear hF hav har hc hp hw hwv eF hfa hpl
   refine fnN (cs:=Q8z F) func90 rfl (by kernel_rfl) ?_
   intro w0 g0
   generalize hp:std=p,hrx:Q0 l=rx
   generalize hT:Q5 p tys (Q8z F) _ _ _ _=T
   cbv at hT
   subst hT
   simp only[Tree.ok,Q1,S0]
   subst hp hrx
   have hxn:=QV hn
   repeat' first
    |(with_reducible refine And.intro (fun hx=>absurd hx (by first|(try simp[std,S1,hxn,af,ap,hF0,hF1,h60])<;>omega|omega)) (fun _=>?_))
    |(with_reducible refine And.intro (fun _=>?_) (fun hx=>absurd hx (by first|(try simp[std,S1,hxn,af,ap,hF0,hF1,h60])<;>omega|omega)))
    |(with_reducible refine And.intro (by first|(try simp[std,S1,hxn,af,ap,hF0,hF1,h60])<;>omega|omega) ?_)
    |(with_reducible refine And.intro ?_ ?_)
    |(with_reducible intro hb)
   all_goals exact .pure rfl ⟨.inl (by rw[hkd]),.inl rfl,.inl (by first|(rw[htt];done)|(rw[htt];exact congrArg _ (congrArg _ hxn.symm))|(rw[htt];exact congrArg _ (congrArg _ hxn))|(rw[htt];rfl)),.inl (by rw[hww]),trivial⟩
  |true =>
   have h62:¬ l[F.toNat]?.getD 0=60:=by
    have:rAt l F=62:=by rw[eF];exact hav.1 hwv
    show ¬ rAt l F=60
    rw[this];decide
   have hp1:(F-1).toNat=p-1:=by omega
   have hft:(F-1).toNat=F.toNat-1:=by omega
   have ap2:=ap
   rw[hft] at ap2
   have hpl1:p-1<l.length:=by omega
   rw[hwv,if_neg (by decide)] at hkd htt hww
   by_cases h47:l[p-1]?=some 47
   ·have hg:l[(F-1).toNat]?.getD 0=47:=by rw[hp1,h47];rfl
    rw[if_pos h47] at hkd htt hww
    have hkd:kd=9:=hkd
    have htt:tt=F+1:=by rw[hF];show tt=_;rw[htt];show ((p+1:Nat):Int)=_;omega
    have hww:ww=true:=hww
    clear hF hav har hc hp hw hwv eF hfa hpl h47 hp1 hpl1
    refine fnN (cs:=Q8z F) func90 rfl (by kernel_rfl) ?_
    intro w0 g0
    generalize hp:std=p,hrx:Q0 l=rx
    generalize hT:Q5 p tys (Q8z F) _ _ _ _=T
    cbv at hT
    subst hT
    simp only[Tree.ok,Q1,S0]
    subst hp hrx
    have hxn:=QV hn
    have hg2:=hg
    rw[hft] at hg2
    repeat' first
     |(with_reducible refine And.intro (fun hx=>absurd hx (by first|(try simp[std,S1,hxn,af,ap,ap2,hF0,hF1,h62,hg,hg2])<;>omega|omega)) (fun _=>?_))
     |(with_reducible refine And.intro (fun _=>?_) (fun hx=>absurd hx (by first|(try simp[std,S1,hxn,af,ap,ap2,hF0,hF1,h62,hg,hg2])<;>omega|omega)))
     |(with_reducible refine And.intro (by first|(try simp[std,S1,hxn,af,ap,ap2,hF0,hF1,h62,hg,hg2])<;>omega|omega) ?_)
     |(with_reducible refine And.intro ?_ ?_)
     |(with_reducible intro hb)
    all_goals exact .pure rfl ⟨.inl (by rw[hkd]),.inl rfl,.inl (by first|(rw[htt];done)|(rw[htt];exact congrArg _ (congrArg _ hxn.symm))|(rw[htt];exact congrArg _ (congrArg _ hxn))|(rw[htt];rfl)),.inl (by rw[hww]),trivial⟩
   ·have hg:¬ l[(F-1).toNat]?.getD 0=47:=by
     rw[hp1,List.getElem?_eq_getElem hpl1] at *
     intro h
     exact h47 (congrArg some h)
    rw[if_neg h47] at hkd htt hww
    have hkd:kd=8:=hkd
    have htt:tt=F+1:=by rw[hF];show tt=_;rw[htt];show ((p+1:Nat):Int)=_;omega
    have hww:ww=true:=hww
    clear hF hav har hc hp hw hwv eF hfa hpl h47 hp1 hpl1
    refine fnN (cs:=Q8z F) func90 rfl (by kernel_rfl) ?_
    intro w0 g0
    generalize hp:std=p,hrx:Q0 l=rx
    generalize hT:Q5 p tys (Q8z F) _ _ _ _=T
    cbv at hT
    subst hT
    simp only[Tree.ok,Q1,S0]
    subst hp hrx
    have hxn:=QV hn
    have hg2:=hg
    rw[hft] at hg2
    repeat' first
     |(with_reducible refine And.intro (fun hx=>absurd hx (by first|(try simp[std,S1,hxn,af,ap,ap2,hF0,hF1,h62,hg,hg2])<;>omega|omega)) (fun _=>?_))
     |(with_reducible refine And.intro (fun _=>?_) (fun hx=>absurd hx (by first|(try simp[std,S1,hxn,af,ap,ap2,hF0,hF1,h62,hg,hg2])<;>omega|omega)))
     |(with_reducible refine And.intro (by first|(try simp[std,S1,hxn,af,ap,ap2,hF0,hF1,h62,hg,hg2])<;>omega|omega) ?_)
     |(with_reducible refine And.intro ?_ ?_)
     |(with_reducible intro hb)
    all_goals exact .pure rfl ⟨.inl (by rw[hkd]),.inl rfl,.inl (by first|(rw[htt];done)|(rw[htt];exact congrArg _ (congrArg _ hxn.symm))|(rw[htt];exact congrArg _ (congrArg _ hxn))|(rw[htt];rfl)),.inl (by rw[hww]),trivial⟩
 ·rw[if_neg hc] at hF
  have hF:F=-1:=hF
  have hwv:w=false:=by cases w with|true=>exact absurd (.inl rfl) hc|false=>rfl
  have hpl:p=l.length:=by have:=har.2.1;have:¬ p<l.length:=fun h=>hc (.inr h);omega
  rw[hwv,if_pos rfl] at hkd htt hww
  have hkd:kd=8:=hkd
  have htt:tt=n:=by rw[htt];show (p:Int)=n;have:=hn.eq;omega
  have hww:ww=false:=hww
  clear hav har hc hp hw hwv hfa hpl
  have hFn:F<0:=by omega
  clear hF
  refine fnN (cs:=Q8z F) func90 rfl (by kernel_rfl) ?_
  intro w0 g0
  generalize hp:std=p,hrx:Q0 l=rx
  generalize hT:Q5 p tys (Q8z F) _ _ _ _=T
  cbv at hT
  subst hT
  simp only[Tree.ok,Q1,S0]
  subst hp hrx
  have hxn:=QV hn
  repeat' first
   |(with_reducible refine And.intro (fun hx=>absurd hx (by first|(try simp[std,S1,hxn,hFn])<;>omega|omega)) (fun _=>?_))
   |(with_reducible refine And.intro (fun _=>?_) (fun hx=>absurd hx (by first|(try simp[std,S1,hxn,hFn])<;>omega|omega)))
   |(with_reducible refine And.intro (by first|(try simp[std,S1,hxn,hFn])<;>omega|omega) ?_)
   |(with_reducible refine And.intro ?_ ?_)
   |(with_reducible intro hb)
  all_goals exact .pure rfl ⟨.inl (by rw[hkd]),.inl rfl,.inl (by first|(rw[htt];done)|(rw[htt];exact congrArg _ (congrArg _ hxn.symm))|(rw[htt];exact congrArg _ (congrArg _ hxn))|(rw[htt];rfl)),.inl (by rw[hww]),trivial⟩
end Go.Proofs.YthbjpdijafccjaaGreat
