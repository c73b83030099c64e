/- Lemmas, conditions told -/
import Derived.Test.YtnlbhaeimmenoaaGreatG19
import Derived.Test.YtnlbhaeimmenoaaGreatG12
set_option maxRecDepth 99999
set_option maxHeartbeats 0
set_option linter.unusedSimpArgs false
set_option linter.unusedVariables false
namespace Go.Proofs.YtnlbhaeimmenoaaGreat
open List(getElem?_eq_getElem mem_map getElem?_map length_cons length_nil getElem_mem drop_eq_getElem_cons length_drop mem_cons flatMap_cons map_take map_drop length_append length_singleton)
open Nat(le_refl)
open Int(toNat_natCast)
open Go.RowKit Go.Lib
section
open Tryz
theorem QkP(l:List Int)(hl:l.length<=1000000000)(f:Int)(h0:0<=f)(h1:f<=l.length):BCall prog 142 [.slc 1 (Q0 l),.val (.int .i64 f)] [] (.slc 1 (Q0 (qL l f.toNat))) []:=by
 refine BCall.hand (enters_of func142 (by kernel_rfl) rfl) fun w g vs M hL=>?_
 obtain⟨v1,vs1,rfl,vu,hL⟩:=QX hL;obtain⟨v2,vs2,rfl,h2',hL⟩:=QX hL;obtain rfl:=Q2T hL;obtain⟨A,c,rfl,hr⟩:=Q4g vu M;obtain rfl:=Q3v h2';have:=QgG _ A _ c l f.toNat w hr (by omega) hl
 rw[Int.toNat_of_nonneg h0]at this;refine this.mono fun e w' ⟨b,h,q6,hb⟩=>⟨_,h,hb,?_⟩
 have hr3:Rd w' (fun b=>w.heap.size<=b/\b<w'.heap.size) 1 (some ⟨b,0,none⟩) l.length l.length (rc (qL l f.toNat)) :=
  ⟨q6.len,q6.le,q6.max,q6.nil,fun h0=>by
   obtain⟨b',o',e',hS,hc⟩:=q6.at_ h0;refine⟨b',o',e',⟨hS,?_⟩,hc⟩;have vt:(rc (qL l f.toNat)).length=l.length:=by simp[rc,qL,qTo]
   exact World.block_lt_of_cell? w' _ (hc 0 _ (getElem?_eq_getElem (by omega)))⟩
 refine QgC hr3 (fun b o hb=>.inr hb) (by rw[Qx,qL,QhW]) (fun x hx=>by obtain⟨n,_,rfl⟩:=mem_map.1 hx;rfl) (fun x hx=>by cases hx;exact⟨_,_,rfl⟩) ?_
 have e:Q0 (qL l f.toNat)=(rc (qL l f.toNat)).map .val:=by simp[Q0,rc,QhB]
 rw[e,Q6w];refine⟨by simp,fun j y u hy hu=>?_⟩
 rw[getElem?_map,hy]at hu;obtain rfl:AV.val y=u:=by simpa using hu
 obtain⟨n,_,rfl⟩:=mem_map.1 (List.mem_of_getElem? hy);exact PRel.val _ rfl
def Qbp(l:List Int)(f:Nat)(a b:Int)(i:Nat):Bool:=decide (QbB l f (i-f)=0)&&(decide (rAt l i=a)||decide (rAt l i=b))
def frF(l:List Int)(f:Nat)(a b:Int)(k:Nat):Option Nat:=(List.range' k (l.length-k)).find? (Qbp l f a b)
theorem Q7N(l:List Int)(f:Nat)(a b:Int){k:Nat}(h:¬k<l.length):frF l f a b k=none:=by
 rw[frF,show l.length-k=0 by omega];rfl
theorem Q6t(l:List Int)(f:Nat)(a b:Int){k:Nat}(h:k<l.length):frF l f a b k=if Qbp l f a b k=true then some k else frF l f a b (k+1):=by
 rw[frF,show l.length-k=(l.length-(k+1))+1 by omega,List.range'_succ,List.find?_cons]
 cases Qbp l f a b k<;>rfl
def Q8O(l:List Int)(s:Bool)(k:Nat):Option Nat:=if(QH l s k).2=true\/(QH l s k).1<l.length then some (QH l s k).1 else none
def QfO(l:List Int)(s:Bool)(q:Int)(k:Nat):Option Nat:=if(Q2p l q k).2=true then Q8O l s (Q2p l q k).1 else none
def isQ(q:Int):Prop:=q=34\/q=39
def Qaj(s:Bool):Int:=if s then 60 else 62
theorem QoD(s:Bool):Qaj s=60\/Qaj s=62:=by cases s<;>simp[Qaj]
theorem Qpb(l:List Int)(f:Nat)(s:Bool):∀(n m:Nat),l.length-(f+m)<=n ->
  (qSt l f m=0->frF l f (Qaj s) 62 (f+m)=Q8O l s (f+m))/\(isQ (qSt l f m)->frF l f (Qaj s) 62 (f+m)=QfO l s (qSt l f m) (f+m)):=by
 intro n;induction n with
 |zero =>
  intro m h;have hk:¬f+m<l.length:=by omega
  refine⟨fun _=>?_,fun _=>?_⟩
  ·rw[Q7N l f _ _ hk,Q8O,Q2f l s _ hk,if_neg (by simp)]
  ·rw[Q7N l f _ _ hk,QfO,Q3O l _ _ hk,if_neg (by simp)]
 |succ n ih =>
  intro m h;by_cases hk:f+m<l.length
  ·obtain⟨ih1,ih2⟩:=ih (m+1) (by omega)
   rw[<-Nat.add_assoc]at ih1 ih2;have hg:l[f+m]?.getD 0=l[f+m]:=by rw[getElem?_eq_getElem hk];rfl
   have xU:rAt l ((f+m:Nat):Int)=l[f+m]:=Qdg hk;have hs:qSt l f (m+1)=(Q2P (qSt l f m) l[f+m]).1:=by rw[qSt,hg]
   have ho:QbB l f (f+m-f)=(Q2P (qSt l f m) l[f+m]).2:=by rw[QbB,show f+m-f=m by omega,hg]
   have yG:=QoD s;rw[Q6t l f _ _ hk,Qbp,ho,xU];rw[hs]at ih1 ih2;generalize hr:l[f+m]=r at *;refine⟨fun h0=>?_,fun hq=>?_⟩
   ·rw[h0]at ih1 ih2 ⊢
    by_cases kA:r=34\/r=39
    ·have e:Q2P 0 r=(r,0):=by rw[Q2P,if_pos ⟨rfl,kA⟩]
     rw[e]at ih1 ih2 ⊢
     have ge:¬((decide ((0:Int)=0)&&(decide (r=Qaj s)||decide (r=62)))=true):=by
      simp only[decide_true,Bool.true_and,Bool.or_eq_true,decide_eq_true_eq];omega
     rw[if_neg ge,ih2 kA];have hqq:Q2Q l[f+m]=true:=by rw[hr];rcases kA with rfl|rfl<;>rfl
     rw[Q8O,Q4V l s _ hk hqq,QfO];have hqd:Q16 l (f+m)=Q2p l r (f+m+1):=by rw[Q16,List.getD_eq_getElem?_getD,getElem?_eq_getElem hk,<-hr];rfl
     rw[hqd];cases hb:(Q2p l r (f+m+1)).2 with
     |true=>rw[if_pos rfl];rfl
     |false =>
      rw[if_neg (by decide)]
      have vW:(Q2p l r (f+m+1)).1=l.length:=by
       have key:∀(n k:Nat),l.length-k<=n->(Q2p l r k).2=false->(Q2p l r k).1=l.length:=by
        intro n;induction n with
        |zero=>intro k h1 h2;rw[Q3O l r k (by omega)]
        |succ n ih3 =>
         intro k h1 h2;by_cases h3:k<l.length
         ·by_cases h4:l[k]=r
          ·rw[Q6q l r k h3 h4]at h2;cases h2
          ·rw[Q5J l r k h3 h4]at h2 ⊢
           exact ih3 _ (by omega) h2
         ·rw[Q3O l r k h3]
       exact key _ _ (le_refl _) hb
      rw[vW,Q2f l s _ (by omega),if_neg (by simp)]
    ·have e:Q2P 0 r=(0,0):=by rw[Q2P,if_neg (fun h=>kA h.2),if_neg (fun h=>h.1 rfl)]
     rw[e]at ih1 ⊢
     have qK:Q2Q l[f+m]=false:=by
      rw[hr];simp only[Q2Q,Bool.or_eq_false_iff,beq_eq_false_iff_ne];omega
     by_cases j0:r=62
     ·subst j0
      rw[if_pos (by simp),Q8O,Q5H l s _ hk hr,if_pos (.inl rfl)]
     ·by_cases jL:r=60/\s=true
      ·obtain⟨rfl,rfl⟩:=jL
       rw[if_pos (by decide),Q8O,Q71 l _ hk hr,if_pos (.inr hk)]
      ·have ge:¬((decide ((0:Int)=0)&&(decide (r=Qaj s)||decide (r=62)))=true):=by
        simp only[decide_true,Bool.true_and,Bool.or_eq_true,decide_eq_true_eq];rintro(h|h)
        ·cases s with
         |true=>exact jL ⟨h,rfl⟩
         |false=>exact j0 h
        ·exact j0 h
       rw[if_neg ge,ih1 rfl,Q8O,Q8O,Q4e l s _ hk qK (by rw[hr];exact j0) (by rw[hr];exact jL)]
   ·generalize qSt l f m=q at *
    have vF:q≠0:=by rcases hq with rfl|rfl<;>decide
    by_cases gC:r=q
    ·have e:Q2P q r=(0,0):=by rw[Q2P,if_neg (fun h=>vF h.1),if_pos ⟨vF,gC⟩]
     rw[e]at ih1 ⊢
     have ge:¬((decide ((0:Int)=0)&&(decide (r=Qaj s)||decide (r=62)))=true):=by
      simp only[decide_true,Bool.true_and,Bool.or_eq_true,decide_eq_true_eq];rcases hq with rfl|rfl<;>omega
     rw[if_neg ge,ih1 rfl,QfO,Q6q l q _ hk (by rw[hr];exact gC),if_pos rfl]
    ·have e:Q2P q r=(q,q):=by rw[Q2P,if_neg (fun h=>vF h.1),if_neg (fun h=>gC h.2)]
     rw[e]at ih2 ⊢
     have ge:¬((decide (q=0)&&(decide (r=Qaj s)||decide (r=62)))=true):=by
      rw[decide_eq_false vF];simp
     rw[if_neg ge,ih2 hq,QfO,QfO,Q5J l q _ hk (by rw[hr];exact gC)]
  ·refine⟨fun _=>?_,fun _=>?_⟩
   ·rw[Q7N l f _ _ hk,Q8O,Q2f l s _ hk,if_neg (by simp)]
   ·rw[Q7N l f _ _ hk,QfO,Q3O l _ _ hk,if_neg (by simp)]
theorem Qfh(l:List Int)(f:Nat)(s:Bool):frF l f (Qaj s) 62 f=Q8O l s f:=(Qpb l f s l.length 0 (by omega)).1 rfl
def Qak(l:List Int)(f:Nat)(a b:Int):Int:=match frF l f a b f with
 |none=>-1
 |some j=>(j:Int)
def QqN(Q:List AV):Nat->List AV->List Ob->Option (AV×List Ob):=fun f args _=>match f,args with
 |142,[.slc 1 _,.val (.int .i64 _)]=>some (.slc 1 Q,[])
 |_,_=>none
theorem QqI(l:List Int)(f:Nat){i:Int}(h0:(f:Int)<=i)(h1:i<l.length):(qL l f)[i.toNat]?.getD 0=QbB l f (i.toNat-f):=by
 rw[qL,qTo,getElem?_map,List.getElem?_range (by omega)]
 show(if f<=i.toNat/\i.toNat<l.length then _ else(0:Int))=_
 rw[if_pos ⟨by omega,by omega⟩]
theorem Qhc(l:List Int)(hl:l.length<=1000000000)(f:Int)(h0:0<=f)(h1:f<=l.length)(a b:Int):BCall prog 119 [.slc 1 (Q0 l),.val (.int .i64 f),.val (.int .i32 a),.val (.int .i32 b)] [] (.val (.int .i64 (Qak l f.toNat a b))) []:=by
 have cQ:=QkP l hl f h0 h1;obtain⟨n,hn⟩:=QG l;have jr:=Qx l;obtain⟨fn,gv⟩:=exq f.toNat;rw[<-gv]at cQ ⊢;have hqa:∀i:Int,f<=i->i<n->(qL l fn)[i.toNat]?.getD 0=QbB l fn (i.toNat-fn):=fun i hi pS=>QqI l fn (by omega) (by have:=hn.eq;omega)
 have hql:(qL l fn).length=l.length:=QhW l fn _;have hqx:=Qx (qL l fn);generalize qL l fn=qs at cQ hqa hql hqx;obtain⟨R,hR⟩:=exq (Qak l fn a b:Int);rw[<-hR];rw[Qak]at hR;have hfn1:f<=n:=by have:=hn.eq;omega
 have qG:n<=1000000000:=by have:=hn.eq;omega
 refine fnN (QqN (Q0 qs)) func119 rfl fun _ _=>?_
 with_reducible refine cv2 (Q0 l) (Q0 qs) ?_
 refine⟨cQ,?_⟩;refine Q1h (QqN (Q0 qs)) (Int) (fun i=>⟨[(0,.slc 1 (Q0 l)),(2,.val (.int .i32 a)),(3,.val (.int .i32 b)),(9,.slc 1 (Q0 qs)),(10,.val (.int .i64 i))],[]⟩) (fun i=>f<=i/\i<=n/\frF l fn a b i.toNat=frF l fn a b fn) (fun i=>(n-i).toNat) f ?_ ?_ ?_
 ·exact⟨Int.le_refl _,hfn1,by rw[gv]⟩
 ·refine⟨[],_,rfl,?_⟩
  exact eq0
 ·rintro i ⟨jN,jS,qy⟩
  have jN:f<=i:=jN;have jS:i<=n:=jS;have qy:frF l fn a b i.toNat=frF l fn a b fn:=qy;rcases Int.lt_or_eq_of_le jS with jB|j4
  ·have ai:=QN (l:=l) (i:=i) (by omega) (by have:=hn.eq;omega)
   have aq:=QN (l:=qs) (i:=i) (by omega) (by have:=hn.eq;omega)
   have pu:=hqa i jN jB;have zh:l[i.toNat]?.getD 0=rAt l i:=rfl;have j3:i.toNat<l.length:=by have:=hn.eq;omega
   have yn:Qbp l fn a b i.toNat=(decide (qs[i.toNat]?.getD 0=0)&&(decide (l[i.toNat]?.getD 0=a)||decide (l[i.toNat]?.getD 0=b))):=by
    rw[Qbp,pu,rAt,toNat_natCast]
   by_cases cq:qs[i.toNat]?.getD 0=0
   ·by_cases ca:l[i.toNat]?.getD 0=a
    ·have qz:R=i:=by
      have hh:Qbp l fn a b i.toNat=true:=by rw[yn];rw[decide_eq_true cq,decide_eq_true ca];rfl
      rw[hR,<-qy,Q6t l fn a b (by omega),if_pos hh]
      show((i.toNat:Nat):Int)=i
      omega
     clear qy hR yn pu zh;with_reducible refine cv2 (Q0 l) (Q0 qs) ?_
     have jC:=QY hn;have vY:(((Q0 qs).length:Nat):Int)=n:=by have:=hn.eq;omega
     with_reducible repeat' first|refine aU (zA jC <| zA vY <| zA ai <| zA aq <| zA jB <| zA jN <| zA h0 <| zA cq ca) ?_|refine And.intro ?_ ?_|intro hb
     all_goals
      with_reducible refine cv2 (Q0 l) (Q0 qs) ?_
      refine .pure rfl (.inl ?_);rw[qz]
    ·by_cases cb:l[i.toNat]?.getD 0=b
     ·have qz:R=i:=by
       have hh:Qbp l fn a b i.toNat=true:=by rw[yn];rw[decide_eq_true cq,decide_eq_true cb,decide_eq_false ca];rfl
       rw[hR,<-qy,Q6t l fn a b (by omega),if_pos hh]
       show((i.toNat:Nat):Int)=i
       omega
      clear qy hR yn pu zh;with_reducible refine cv2 (Q0 l) (Q0 qs) ?_
      have jC:=QY hn;have vY:(((Q0 qs).length:Nat):Int)=n:=by have:=hn.eq;omega
      with_reducible repeat' first|refine aU (zA jC <| zA vY <| zA ai <| zA aq <| zA jB <| zA jN <| zA h0 <| zA cq <| zA ca cb) ?_|refine And.intro ?_ ?_|intro hb
      all_goals
       with_reducible refine cv2 (Q0 l) (Q0 qs) ?_
       refine .pure rfl (.inl ?_);rw[qz]
     ·have jG:frF l fn a b i.toNat=frF l fn a b (i+1).toNat:=by
       have hh:¬Qbp l fn a b i.toNat=true:=by rw[yn];rw[decide_eq_true cq,decide_eq_false ca,decide_eq_false cb];simp
       rw[Q6t l fn a b (by omega),if_neg hh,show(i+1).toNat=i.toNat+1 by omega]
      rw[qy]at jG;clear qy hR yn pu zh;with_reducible refine cv2 (Q0 l) (Q0 qs) ?_
      have jC:=QY hn;have vY:(((Q0 qs).length:Nat):Int)=n:=by have:=hn.eq;omega
      with_reducible repeat' first|refine aU (zA jC <| zA vY <| zA ai <| zA aq <| zA jB <| zA jN <| zA h0 <| zA cq <| zA ca cb) ?_|refine And.intro ?_ ?_|intro hb
      all_goals
       refine⟨i+1,⟨by omega,by omega,jG.symm⟩,by omega,[],_,rfl,?_⟩
       exact eq0
   ·have jG:frF l fn a b i.toNat=frF l fn a b (i+1).toNat:=by
     have hh:¬Qbp l fn a b i.toNat=true:=by rw[yn];rw[decide_eq_false cq];simp
     rw[Q6t l fn a b (by omega),if_neg hh,show(i+1).toNat=i.toNat+1 by omega]
    rw[qy]at jG;clear qy hR yn pu zh;with_reducible refine cv2 (Q0 l) (Q0 qs) ?_
    have jC:=QY hn;have vY:(((Q0 qs).length:Nat):Int)=n:=by have:=hn.eq;omega
    with_reducible repeat' first|refine aU (zA jC <| zA vY <| zA ai <| zA aq <| zA jB <| zA jN <| zA h0 cq) ?_|refine And.intro ?_ ?_|intro hb
    all_goals
     refine⟨i+1,⟨by omega,by omega,jG.symm⟩,by omega,[],_,rfl,?_⟩
     exact eq0
  ·have vh:frF l fn a b i.toNat=none:=Q7N l fn a b (by have:=hn.eq;omega)
   have qz:R=-1:=by rw[hR,<-qy,vh]
   rw[j4];clear qy vh;with_reducible refine cv2 (Q0 l) (Q0 qs) ?_
   have jC:=QY hn;with_reducible repeat' first|refine aU jC ?_|refine And.intro ?_ ?_|intro hb
   ·rw[if_pos trivial]
    with_reducible refine cv2 (Q0 l) (Q0 qs) ?_
    refine .pure rfl (.inl ?_);rw[qz]
theorem Qjv(l:List Int)(s:Bool):∀(n k:Nat),l.length-k<=n->((QH l s k).2=true->rAt l ((QH l s k).1:Nat)=62)/\((QH l s k).2=false->(QH l s k).1<l.length->rAt l ((QH l s k).1:Nat)=60):=by
 intro n;induction n with
 |zero =>
  intro k h;rw[Q2f l s k (by omega)]
  exact⟨fun h2=>(by cases h2),fun _ h2=>absurd h2 (Nat.lt_irrefl _)⟩
 |succ n ih =>
  intro k h;by_cases hk:k<l.length
  ·cases hq:Q2Q l[k]with
   |true =>
    rw[Q4V l s k hk hq];have:=Q2D l k hk
    exact ih _ (by omega)
   |false =>
    by_cases j0:l[k]=62
    ·rw[Q5H l s k hk j0]
     exact⟨fun _=>(by rw[Qdg hk];exact j0),fun h2=>(by cases h2)⟩
    ·by_cases jL:l[k]=60/\s=true
     ·obtain⟨jL,rfl⟩:=jL
      rw[Q71 l k hk jL];exact⟨fun h2=>(by cases h2),fun _ _=>by rw[Qdg hk];exact jL⟩
     ·rw[Q4e l s k hk hq j0 jL]
      exact ih _ (by omega)
  ·rw[Q2f l s k hk]
   exact⟨fun h2=>(by cases h2),fun _ h2=>absurd h2 (Nat.lt_irrefl _)⟩
def QhN(F:Int):Nat->List AV->List Ob->Option (AV×List Ob):=fun f args _=>match f,args with
 |119,[.slc 1 _,.val (.int .i64 _),.val (.int .i32 _),.val (.int .i32 _)]=>some (.val (.int .i64 F),[])
 |_,_=>none
theorem QiC(l:List Int)(hl:l.length<=1000000000)(k:Int)(h0:0<=k)(h1:k<l.length):BCall prog 86 [.slc 1 (Q0 l),.val (.int .i64 k)] [] (Q1r ((Q1m l k.toNat).1:Nat) k ((Q1m l k.toNat).2.1:Nat) (Q1m l k.toNat).2.2) []:=by
 have cF:=Qhc l hl (k+1) (by omega) (by omega) 60 62
 have gn:=Qfh l (k+1).toNat true;have xW:=Qjv l true l.length (k+1).toNat (by omega)
 have yo:=Q2y l true l.length (k+1).toNat (by omega) (by omega)
 have jT:(k+1).toNat=k.toNat+1:=by omega
 obtain⟨n,hn⟩:=QG l;have jr:=Qx l;obtain⟨F,hF⟩:=exq (Qak l (k+1).toNat 60 62:Int);rw[<-hF]at cF;rw[Qak,show(60:Int)=Qaj true from rfl,gn,Q8O]at hF;rw[Q1m,<-jT];obtain⟨p,hp⟩:=exq ((QH l true (k+1).toNat).1);obtain⟨w,hw⟩:=exq ((QH l true (k+1).toNat).2);rw[<-hp,<-hw]at hF xW yo ⊢;have jq:k<n:=by have:=hn.eq;omega
 have qG:n<=1000000000:=by have:=hn.eq;omega
 obtain⟨kd,jD⟩:=exq ((((if w=false then((8:Nat),p,false)else if l[p-1]?=some 47 then(9,p+1,true)else(8,p+1,true)):Nat×Nat×Bool).1:Nat):Int);obtain⟨tt,jE⟩:=exq ((((if w=false then((8:Nat),p,false)else if l[p-1]?=some 47 then(9,p+1,true)else(8,p+1,true)):Nat×Nat×Bool).2.1:Nat):Int);obtain⟨ww,jK⟩:=exq (((if w=false then((8:Nat),p,false)else if l[p-1]?=some 47 then(9,p+1,true)else(8,p+1,true)):Nat×Nat×Bool).2.2:Bool);rw[<-jD,<-jE,<-jK,Q1r];by_cases hc:w=true\/p<l.length
 ·rw[if_pos hc]at hF
  have hF:F=(p:Int):=hF
  have qX:p<l.length:=by
   rcases hc with h|h
   ·exact yo.2.2 h
   ·exact h
  have zQ:k+1<=F:=by omega
  have pv:F<n:=by have:=hn.eq;omega
  have af:=QN (l:=l) (i:=F) (by omega) (by omega)
  have ap:=QN (l:=l) (i:=F-1) (by omega) (by omega)
  have eF:rAt l F=rAt l (p:Int):=by rw[hF]
  cases gw:w with
  |false =>
   have jL:l[F.toNat]?.getD 0=60:=by show rAt l F=60;rw[eF];exact xW.2 gw qX
   rw[gw,if_pos rfl]at jD jE jK;have jD:kd=8:=jD;have jE:tt=F:=by rw[hF];exact jE
   have jK:ww=false:=jK;clear hF xW yo hc hp hw gw eF gn qX;refine fnN (QhN F) func86 rfl fun _ _=>?_
   with_reducible refine cv1 (Q0 l) ?_
   have jC:=QY hn;with_reducible repeat' first|refine aU (zA jC <| zA af <| zA ap <| zA zQ <| zA pv jL) ?_|refine And.intro ?_ ?_|intro hb
   all_goals exact .pure rfl ⟨.inl (by rw[jD]),.inl rfl,.inl (by first|(rw[jE];done)|(rw[jE];exact congrArg _ (congrArg _ jC.symm))|(rw[jE];exact congrArg _ (congrArg _ jC))|(rw[jE];rfl)),.inl (by rw[jK]),trivial⟩
  |true =>
   have j0:¬l[F.toNat]?.getD 0=60:=by
    have:rAt l F=62:=by rw[eF];exact xW.1 gw
    show ¬rAt l F=60;rw[this];decide
   have zg:(F-1).toNat=p-1:=by omega
   have hft:(F-1).toNat=F.toNat-1:=by omega
   have ap2:=ap;rw[hft]at ap2;have xX:p-1<l.length:=by omega
   rw[gw,if_neg (by decide)]at jD jE jK
   by_cases vI:l[p-1]?=some 47
   ·have hg:l[(F-1).toNat]?.getD 0=47:=by rw[zg,vI];rfl
    rw[if_pos vI]at jD jE jK;have jD:kd=9:=jD;have jE:tt=F+1:=by rw[hF];show tt=_;rw[jE];show((p+1:Nat):Int)=_;omega
    have jK:ww=true:=jK;clear hF xW yo hc hp hw gw eF gn qX vI zg xX;refine fnN (QhN F) func86 rfl fun _ _=>?_
    with_reducible refine cv1 (Q0 l) ?_
    have jC:=QY hn;have gg:=hg;rw[hft]at gg;with_reducible repeat' first|refine aU (zA jC <| zA af <| zA ap <| zA ap2 <| zA zQ <| zA pv <| zA j0 <| zA hg gg) ?_|refine And.intro ?_ ?_|intro hb
    all_goals exact .pure rfl ⟨.inl (by rw[jD]),.inl rfl,.inl (by first|(rw[jE];done)|(rw[jE];exact congrArg _ (congrArg _ jC.symm))|(rw[jE];exact congrArg _ (congrArg _ jC))|(rw[jE];rfl)),.inl (by rw[jK]),trivial⟩
   ·have hg:¬l[(F-1).toNat]?.getD 0=47:=by
     rw[zg,getElem?_eq_getElem xX]at *;intro h;exact vI (congrArg some h)
    rw[if_neg vI]at jD jE jK;have jD:kd=8:=jD;have jE:tt=F+1:=by rw[hF];show tt=_;rw[jE];show((p+1:Nat):Int)=_;omega
    have jK:ww=true:=jK;clear hF xW yo hc hp hw gw eF gn qX vI zg xX;refine fnN (QhN F) func86 rfl fun _ _=>?_
    with_reducible refine cv1 (Q0 l) ?_
    have jC:=QY hn;have gg:=hg;rw[hft]at gg;with_reducible repeat' first|refine aU (zA jC <| zA af <| zA ap <| zA ap2 <| zA zQ <| zA pv <| zA j0 <| zA hg gg) ?_|refine And.intro ?_ ?_|intro hb
    all_goals exact .pure rfl ⟨.inl (by rw[jD]),.inl rfl,.inl (by first|(rw[jE];done)|(rw[jE];exact congrArg _ (congrArg _ jC.symm))|(rw[jE];exact congrArg _ (congrArg _ jC))|(rw[jE];rfl)),.inl (by rw[jK]),trivial⟩
 ·rw[if_neg hc]at hF
  have hF:F=-1:=hF;have gw:w=false:=by cases w with|true=>exact absurd (.inl rfl) hc|false=>rfl
  have qX:p=l.length:=by have:=yo.2.1;have:¬p<l.length:=fun h=>hc (.inr h);omega
  rw[gw,if_pos rfl]at jD jE jK;have jD:kd=8:=jD;have jE:tt=n:=by rw[jE];show(p:Int)=n;have:=hn.eq;omega
  have jK:ww=false:=jK;clear xW yo hc hp hw gw gn qX;have hFn:F<0:=by omega
  clear hF;refine fnN (QhN F) func86 rfl fun _ _=>?_
  with_reducible refine cv1 (Q0 l) ?_
  have jC:=QY hn;with_reducible repeat' first|refine aU (zA jC hFn) ?_|refine And.intro ?_ ?_|intro hb
  all_goals exact .pure rfl ⟨.inl (by rw[jD]),.inl rfl,.inl (by first|(rw[jE];done)|(rw[jE];exact congrArg _ (congrArg _ jC.symm))|(rw[jE];exact congrArg _ (congrArg _ jC))|(rw[jE];rfl)),.inl (by rw[jK]),trivial⟩
theorem Qlr(l:List Int):∀(n k:Nat),l.length-k<=n->(QH l false k).2=false->(QH l false k).1=l.length:=by
 intro n;induction n with
 |zero=>intro k h _;rw[Q2f l false k (by omega)]
 |succ n ih =>
  intro k h h2;by_cases hk:k<l.length
  ·cases hq:Q2Q l[k]with
   |true =>
    rw[Q4V l false k hk hq]at h2 ⊢;have:=Q2D l k hk
    exact ih _ (by omega) h2
   |false =>
    by_cases j0:l[k]=62
    ·rw[Q5H l false k hk j0]at h2;cases h2
    ·have jL:¬(l[k]=60/\false=true):=fun h=>by cases h.2
     rw[Q4e l false k hk hq j0 jL]at h2 ⊢;exact ih _ (by omega) h2
  ·rw[Q2f l false k hk]
def QZ(l:List Int)(k:Int):Int:=if(Q3B l k.toNat).2=true then((Q3B l k.toNat).1:Nat)else -1
def Qgp(s1 s2 w1 w2:Bool)(t1 t2 k F:Int):Nat->List AV->List Ob->Option (AV×List Ob):=fun f args _=>match f,args with
 |1000010,_=>some (.val (.bool s1),[])
 |1000021,_=>some (.val (.bool s2),[])
 |1000013,_=>some (Q1r 4 k t1 w1,[])
 |1000024,_=>some (Q1r 5 k t2 w2,[])
 |119,[.slc 1 _,.val (.int .i64 _),.val (.int .i32 _),.val (.int .i32 _)]=>some (.val (.int .i64 F),[])
 |_,_=>none
theorem QiF(l:List Int)(hl:l.length<=1000000000)(vi:I32 l)(k:Int)(h0:0<=k)(h1:k<l.length):BCall prog 115 [.slc 1 (Q0 l),.val (.int .i64 k)] [] (.val (.int .i64 (QZ l k))) []:=by
 have c1:BCall prog 81 [.slc 1 (Q0 l),.val (.int .i64 k),.val (.string ⟨#[60,33,45,45]⟩)] [] (.val (.bool (Q3 l k.toNat [60,33,45,45]))) []:=Qa l hl vi k h0 (by omega) ⟨#[60,33,45,45]⟩ (by decide)
 have c2:BCall prog 81 [.slc 1 (Q0 l),.val (.int .i64 k),.val (.string ⟨#[60,63]⟩)] [] (.val (.bool (Q3 l k.toNat [60,63]))) []:=Qa l hl vi k h0 (by omega) ⟨#[60,63]⟩ (by decide)
 have ak:=QN (l:=l) (i:=k) h0 h1;have vw:((k.toNat:Nat):Int)=k:=Int.toNat_of_nonneg h0;obtain⟨n,hn⟩:=QG l;have jr:=Qx l;have jq:k<n:=by have:=hn.eq;omega
 have qG:n<=1000000000:=by have:=hn.eq;omega
 obtain⟨R,hR⟩:=exq (QZ l k:Int);rw[<-hR];rw[QZ,Q3B]at hR;cases jO:Q3 l k.toNat [60,33,45,45]with
 |true =>
  have j5:=Q10 l k.toNat _ (by omega) jO
  simp only[length_cons,length_nil]at j5;have cT:BCall prog 82 [.slc 1 (Q0 l),.val (.int .i64 4),.val (.int .i64 k),.val (.int .i64 4),.val (.string ⟨#[45,45,62]⟩)] [] (Q1r 4 k (Q3E l (k+4) [45,45,62]) (Q3D l (k+4) [45,45,62])) []:=Q8d l hl vi 4 k 4 h0 (by decide) (by omega) ⟨#[45,45,62]⟩ (by decide)
  obtain⟨_,u2,u3⟩:=Q5x l 4 k.toNat 4 [45,45,62] (by omega)
  rw[vw]at u2 u3;have u2:((QW l 4 k.toNat 4 [45,45,62]).2.1:Int)=Q3E l (k+4) [45,45,62]:=u2;have u3:(QW l 4 k.toNat 4 [45,45,62]).2.2=Q3D l (k+4) [45,45,62]:=u3;rw[if_pos jO]at hR;simp only[u2,u3]at hR;rw[jO]at c1;generalize Q3E l (k+4) [45,45,62]=t1 at cT hR;generalize Q3D l (k+4) [45,45,62]=w1 at cT hR;rw[Q1r]at cT;clear u2 u3 jO j5 c2 vw;cases w1 with
  |true =>
   have hR:R=t1:=hR;refine fnN (Qgp true true true true t1 0 k 0) func115 rfl fun _ _=>?_
   with_reducible refine cv1 (Q0 l) ?_
   repeat' first
    |(with_reducible apply And.intro)
    |exact fun h=>absurd (show false=true from h) (by decide)
    |exact fun h=>absurd (show true=false from h) (by decide)
    |(intro _)
   all_goals first
    |exact c1
    |exact c2
    |exact cT
    |exact .pure rfl (.inl (by rw[hR]))
  |false =>
   have hR:R=-1:=hR;refine fnN (Qgp true true false true t1 0 k 0) func115 rfl fun _ _=>?_
   with_reducible refine cv1 (Q0 l) ?_
   repeat' first
    |(with_reducible apply And.intro)
    |exact fun h=>absurd (show false=true from h) (by decide)
    |exact fun h=>absurd (show true=false from h) (by decide)
    |(intro _)
   all_goals first
    |exact c1
    |exact c2
    |exact cT
    |exact .pure rfl (.inl (by rw[hR]))
 |false =>
  rw[jO]at c1;rw[if_neg (show ¬Q3 l k.toNat [60,33,45,45]=true by rw[jO];decide)]at hR
  cases jV:Q3 l k.toNat [60,63]with
  |true =>
   have j5:=Q10 l k.toNat _ (by omega) jV
   simp only[length_cons,length_nil]at j5;have cT:BCall prog 82 [.slc 1 (Q0 l),.val (.int .i64 5),.val (.int .i64 k),.val (.int .i64 2),.val (.string ⟨#[63,62]⟩)] [] (Q1r 5 k (Q3E l (k+2) [63,62]) (Q3D l (k+2) [63,62])) []:=Q8d l hl vi 5 k 2 h0 (by decide) (by omega) ⟨#[63,62]⟩ (by decide)
   obtain⟨_,u2,u3⟩:=Q5x l 5 k.toNat 2 [63,62] (by omega)
   rw[vw]at u2 u3;have u2:((QW l 5 k.toNat 2 [63,62]).2.1:Int)=Q3E l (k+2) [63,62]:=u2;have u3:(QW l 5 k.toNat 2 [63,62]).2.2=Q3D l (k+2) [63,62]:=u3;rw[if_pos jV]at hR;simp only[u2,u3]at hR;rw[jV]at c2;generalize Q3E l (k+2) [63,62]=t1 at cT hR;generalize Q3D l (k+2) [63,62]=w1 at cT hR;rw[Q1r]at cT;clear u2 u3 jO jV j5 vw;cases w1 with
   |true =>
    have hR:R=t1:=hR;refine fnN (Qgp false true true true 0 t1 k 0) func115 rfl fun _ _=>?_
    with_reducible refine cv1 (Q0 l) ?_
    repeat' first
     |(with_reducible apply And.intro)
     |exact fun h=>absurd (show false=true from h) (by decide)
     |exact fun h=>absurd (show true=false from h) (by decide)
     |(intro _)
    all_goals first
     |exact c1
     |exact c2
     |exact cT
     |exact .pure rfl (.inl (by rw[hR]))
   |false =>
    have hR:R=-1:=hR;refine fnN (Qgp false true true false 0 t1 k 0) func115 rfl fun _ _=>?_
    with_reducible refine cv1 (Q0 l) ?_
    repeat' first
     |(with_reducible apply And.intro)
     |exact fun h=>absurd (show false=true from h) (by decide)
     |exact fun h=>absurd (show true=false from h) (by decide)
     |(intro _)
    all_goals first
     |exact c1
     |exact c2
     |exact cT
     |exact .pure rfl (.inl (by rw[hR]))
  |false =>
   rw[jV]at c2;rw[if_neg (show ¬Q3 l k.toNat [60,63]=true by rw[jV];decide)]at hR
   have hgk:l.getD k.toNat 0=l[k.toNat]?.getD 0:=List.getD_eq_getElem?_getD;rw[hgk]at hR;by_cases jL:l[k.toNat]?.getD 0=60
   ·rw[if_pos jL]at hR
    have cF:=Qhc l hl k h0 (by omega) 62 62
    have gn:=Qfh l k.toNat false;have yo:=Q2y l false l.length k.toNat (by omega) (by omega)
    have vJ:=Qlr l l.length k.toNat (by omega)
    obtain⟨F,hF⟩:=exq (Qak l k.toNat 62 62:Int);rw[<-hF]at cF;rw[Qak,show frF l k.toNat 62 62 k.toNat=Q8O l false k.toNat from gn,Q8O]at hF;simp only at hR
    generalize (QH l false k.toNat).1=p at hF hR yo vJ;generalize (QH l false k.toNat).2=w at hF hR yo vJ;clear gn jO jV vw hgk;cases w with
    |true =>
     have qX:=yo.2.2 rfl;rw[if_pos (.inl rfl)]at hF;have hF:F=(p:Int):=hF;have hR:R=F+1:=by rw[hR,if_pos rfl,hF];show((min (p+1) l.length:Nat):Int)=_;omega
     have zQ:0<=F:=by omega
     have pv:F<n:=by have:=hn.eq;omega
     clear hF yo vJ qX;refine fnN (Qgp false false true true 0 0 k F) func115 rfl fun _ _=>?_
     with_reducible refine cv1 (Q0 l) ?_
     have jC:=QY hn;with_reducible repeat' first|refine aU (zA jC <| zA ak <| zA zQ <| zA pv <| zA jL jq) ?_|refine And.intro ?_ ?_|intro hb
     all_goals exact .pure rfl (.inl (by rw[hR];rfl))
    |false =>
     have qX:=vJ rfl;rw[if_neg (by rw[qX];simp)]at hF
     have hF:F=-1:=hF;have hR:R=-1:=hR;have zQ:F<0:=by omega
     clear hF yo vJ qX;refine fnN (Qgp false false true true 0 0 k F) func115 rfl fun _ _=>?_
     with_reducible refine cv1 (Q0 l) ?_
     have jC:=QY hn;with_reducible repeat' first|refine aU (zA jC <| zA ak <| zA zQ <| zA jL jq) ?_|refine And.intro ?_ ?_|intro hb
     all_goals exact .pure rfl (.inl (by rw[hR]))
   ·rw[if_neg jL]at hR
    have hR:R=k+1:=by rw[hR,if_pos rfl];show((k.toNat+1:Nat):Int)=_;omega
    clear jO jV vw hgk;refine fnN (Qgp false false true true 0 0 k 0) func115 rfl fun _ _=>?_
    with_reducible refine cv1 (Q0 l) ?_
    have jC:=QY hn;with_reducible repeat' first|refine aU (zA jC <| zA ak <| zA jL jq) ?_|refine And.intro ?_ ?_|intro hb
    all_goals exact .pure rfl (.inl (by rw[hR];rfl))
def Q4s(l:List Int)(x:Bool×Int):Nat×Bool:=if x.2<0 then(l.length,false)else if x.1=true then Q2l l (Q3Q l x.2.toNat true).1 (Q3Q l x.2.toNat true).2 else Q2l l x.2.toNat true
theorem Qae(l:List Int)(k:Nat):Q2l l k false=(l.length,false):=Q4D l k false (fun h=>by cases h.2)
theorem Qmr(l:List Int)(k:Nat):Q3Q l k false=(l.length,false):=Q4x l k false (fun h=>by cases h.2)
theorem Q5o{l:List Int}{i:Int}(h0:0<=i)(h1:i<l.length):∃h:i.toNat<l.length,l[i.toNat]?.getD 0=l[i.toNat]:=⟨by omega,by rw[getElem?_eq_getElem (by omega)];rfl⟩
theorem Qdc{l:List Int}{i:Int}(h:0<=i):Q4s l (true,i)=Q2l l (Q3Q l i.toNat true).1 (Q3Q l i.toNat true).2:=by
 show(if i<0 then((l.length,false):Nat×Bool)else if true=true then _ else _)=_
 rw[if_neg (by omega),if_pos rfl]
theorem Q6A{l:List Int}{i:Int}(h:0<=i):Q4s l (false,i)=Q2l l i.toNat true:=by
 show(if i<0 then((l.length,false):Nat×Bool)else if false=true then _ else _)=_
 rw[if_neg (by omega),if_neg (by decide)]
theorem Qj2{l:List Int}{i:Int}(h0:0<=i)(h1:i<l.length)(h:l[i.toNat]?.getD 0=93):Q4s l (true,i)=Q4s l (false,i+1):=by
 obtain⟨hl,e⟩:=Q5o h0 h1;rw[e]at h;rw[Qdc h0,Q6A (by omega),show(i+1).toNat=i.toNat+1 by omega,Q8T l i.toNat hl h]
theorem QnQ{l:List Int}{i:Int}(h0:0<=i)(h1:i<l.length)(h:¬l[i.toNat]?.getD 0=93):Q4s l (true,i)=Q4s l (true,QZ l i)/\(QZ l i=-1\/(i<QZ l i/\QZ l i<=l.length)):=by
 obtain⟨hl,e⟩:=Q5o h0 h1;rw[e]at h;have hr:=Q5c l i.toNat hl;rw[Qdc h0,Q7I l i.toNat hl h,QZ];cases hd:(Q3B l i.toNat).2 with
 |true =>
  rw[if_pos rfl];refine⟨?_,.inr (by omega)⟩
  rw[Qdc (by omega),toNat_natCast]
 |false =>
  rw[if_neg (by decide),Qmr,Qae]
  exact⟨rfl,.inl rfl⟩
theorem QoB{l:List Int}{i:Int}(h0:0<=i)(h1:i<l.length)(h:l[i.toNat]?.getD 0=62):Q4s l (false,i)=((i+1).toNat,true):=by
 obtain⟨hl,e⟩:=Q5o h0 h1;rw[e]at h;rw[Q6A h0,Q8H l i.toNat hl h,show(i+1).toNat=i.toNat+1 by omega]
theorem Qok{l:List Int}{i:Int}(h0:0<=i)(h1:i<l.length)(h:l[i.toNat]?.getD 0=91):Q4s l (false,i)=Q4s l (true,i+1):=by
 obtain⟨hl,e⟩:=Q5o h0 h1;rw[e]at h;rw[Q6A h0,Qdc (by omega),show(i+1).toNat=i.toNat+1 by omega,Q8I l i.toNat hl h]
 rfl
theorem QeD{l:List Int}{i:Int}(h0:0<=i)(h1:i<l.length)(h:l[i.toNat]?.getD 0=34\/l[i.toNat]?.getD 0=39):Q4s l (false,i)=Q4s l (false,Qu l i)/\(Qu l i=-1\/(i<Qu l i/\Qu l i<=l.length)):=by
 obtain⟨hl,e⟩:=Q5o h0 h1;rw[e]at h;have hr:=Q2D l i.toNat hl;have hq:Q2Q l[i.toNat]=true:=by rcases h with h|h<;>rw[h]<;>rfl
 rw[Q6A h0,Q8W l i.toNat hl (by omega) hq,Qu]
 cases hd:(Q16 l i.toNat).2 with
 |true =>
  rw[if_pos rfl];refine⟨?_,.inr (by omega)⟩
  rw[Q6A (by omega),toNat_natCast]
 |false =>
  rw[if_neg (by decide),Qae]
  exact⟨rfl,.inl rfl⟩
theorem QjB{l:List Int}{i:Int}(h0:0<=i)(h1:i<l.length)(j0:¬l[i.toNat]?.getD 0=62)(yy:¬l[i.toNat]?.getD 0=34)(zd:¬l[i.toNat]?.getD 0=39)(zF:¬l[i.toNat]?.getD 0=91):Q4s l (false,i)=Q4s l (false,i+1):=by
 obtain⟨hl,e⟩:=Q5o h0 h1;rw[e]at j0 yy zd zF;have hq:Q2Q l[i.toNat]=false:=by simp only[Q2Q,Bool.or_eq_false_iff,beq_eq_false_iff_ne];exact⟨yy,zd⟩
 rw[Q6A h0,Q6A (by omega),show(i+1).toNat=i.toNat+1 by omega,Q7m l i.toNat hl j0 hq zF]
theorem Qmy{l:List Int}{x:Bool×Int}(h:x.2<0\/(l.length:Int)<=x.2):Q4s l x=(l.length,false):=by
 unfold Q4s;split
 ·rfl
 ·rename_i h2
  have h3:¬x.2.toNat<l.length:=by omega
  split
  ·rw[Q4x l _ _ (fun h=>h3 h.1),Qae]
  ·exact Q4D l _ _ (fun h=>h3 h.1)
def Qqc(wi cl:Int->Int):Nat->List AV->List Ob->Option (AV×List Ob):=fun f args _=>match f,args with
 |115,[.slc 1 _,.val (.int .i64 k)]=>some (.val (.int .i64 (wi k)),[])
 |116,[.slc 1 _,.val (.int .i64 k)]=>some (.val (.int .i64 (cl k)),[])
 |_,_=>none
theorem QfG(l:List Int)(hl:l.length<=1000000000)(vi:I32 l)(k:Int)(h0:0<=k)(h1:k+9<=l.length):BCall prog 83 [.slc 1 (Q0 l),.val (.int .i64 k)] [] (Q1r 7 k ((Q3F l k.toNat).2.1:Nat) (Q3F l k.toNat).2.2) []:=by
 obtain⟨n,hn⟩:=QG l;have cW:∀i:Int,0<=i->i<n->BCall prog 115 [.slc 1 (Q0 l),.val (.int .i64 i)] [] (.val (.int .i64 (QZ l i))) []:=fun i i0 i1=>QiF l hl vi i i0 (by have:=hn.eq;omega)
 have cC:∀i:Int,0<=i->i<n->BCall prog 116 [.slc 1 (Q0 l),.val (.int .i64 i)] [] (.val (.int .i64 (Qu l i))) []:=fun i i0 i1=>QiR l hl i i0 (by have:=hn.eq;omega)
 have jr:=Qx l
 have hd:Q3F l k.toNat=(7,(Q4s l (false,k+9)).1,(Q4s l (false,k+9)).2):=by
  rw[Q3F,Q6A (by omega),show(k+9).toNat=k.toNat+9 by omega]
 rw[hd];obtain⟨rt,zb⟩:=exq (((Q4s l (false,k+9)).1:Nat):Int);obtain⟨rb,yY⟩:=exq ((Q4s l (false,k+9)).2:Bool);show BCall _ _ _ _ (Q1r 7 k ((Q4s l (false,k+9)).1:Nat) (Q4s l (false,k+9)).2) _;rw[<-zb,<-yY,Q1r];have xq:k+9<=n:=by have:=hn.eq;omega
 have qG:n<=1000000000:=by have:=hn.eq;omega
 clear hd h1;refine fnN (Qqc (QZ l) (Qu l)) func83 rfl fun _ _=>?_
 with_reducible refine cv3 (Q0 l) (QZ l) (Qu l) ?_
 have jC:=QY hn;with_reducible repeat' first|refine aU (zA jC <| zA xq h0) ?_|refine And.intro ?_ ?_|intro hb
 refine Q1h (Qqc (QZ l) (Qu l)) (Bool×Int) (fun x=>⟨[(0,.slc 1 (Q0 l)),(1,.val (.int .i64 k)),(4,.box 0 0),(5,.val (.bool x.1)),(6,.val (.int .i64 x.2))],[.box [.val (.int .i64 0),.val (.int .i64 0),.val (.int .i64 0),.val (.bool false)]]⟩) (fun x=>(-1<=x.2/\x.2<=n)/\Q4s l x=Q4s l (false,k+9)) (fun x=>if x.2<0 then 0 else(n-x.2+1).toNat) (false,k+9) ?_ ?_ ?_
 ·exact⟨⟨by show -1<=k+9;omega,xq⟩,rfl⟩
 ·refine⟨[some 0],_,rfl,?_⟩
  exact eq0
 ·rintro⟨op,i⟩ ⟨⟨vF,vY⟩,hi⟩
  have jo:-1<=i:=vF;have jS:i<=n:=vY;clear vF vY;by_cases hc:0<=i/\i<n
  ·obtain⟨hi0',jB⟩:=hc
   have jN:0<=i:=hi0';have j3:i<l.length:=by have:=hn.eq;omega
   have ai:=QN (l:=l) (i:=i) jN j3;cases op with
   |true =>
    by_cases gh:l[i.toNat]?.getD 0=93
    ·have jG:=Qj2 jN j3 gh
     rw[hi]at jG;clear hi jC j3;with_reducible refine cv3 (Q0 l) (QZ l) (Qu l) ?_
     have jC:=QY hn;with_reducible repeat' first|refine aU (zA jC <| zA ai <| zA jB <| zA jN gh) ?_|refine And.intro ?_ ?_|intro hb
     all_goals
      refine⟨(false,i+1),⟨⟨by show -1<=i+1;omega,by show i+1<=n;omega⟩,jG.symm⟩,?_,[some 0],_,rfl,?_⟩
      ·show(if i+1<0 then 0 else(n-(i+1)+1).toNat)<(if i<0 then 0 else(n-i+1).toNat)
       rw[if_neg (by omega),if_neg (by omega)];omega
      exact eq0
    ·obtain⟨jG,xp⟩:=QnQ jN j3 gh
     have cWi:=cW i jN jB;have hwb:-1<=QZ l i/\QZ l i<=n/\(QZ l i<0\/i<QZ l i):=by have:=hn.eq;omega
     clear xp;rw[hi]at jG;clear hi jC j3;with_reducible refine cv3 (Q0 l) (QZ l) (Qu l) ?_
     have jC:=QY hn;with_reducible repeat' first|refine aU (zA jC <| zA ai <| zA jB <| zA jN gh) ?_|refine And.intro ?_ ?_|intro hb
     all_goals
      refine⟨(true,QZ l i),⟨⟨by show -1<=QZ l i;omega,by show QZ l i<=n;omega⟩,jG.symm⟩,?_,[some 0],_,rfl,?_⟩
      ·show(if QZ l i<0 then 0 else(n-QZ l i+1).toNat)<(if i<0 then 0 else(n-i+1).toNat)
       rw[if_neg (show ¬i<0 by omega)]
       split<;>omega
      exact eq0
   |false =>
    by_cases j0:l[i.toNat]?.getD 0=62
    ·have jG:=QoB jN j3 j0
     rw[hi]at jG;have yW:rt=i+1:=by rw[zb,jG];show(((i+1).toNat:Nat):Int)=_;omega
     have gS:rb=true:=by rw[yY,jG]
     clear hi jC j3 jG;with_reducible refine cv3 (Q0 l) (QZ l) (Qu l) ?_
     have jC:=QY hn;with_reducible repeat' first|refine aU (zA jC <| zA ai <| zA jB <| zA jN j0) ?_|refine And.intro ?_ ?_|intro hb
     all_goals
      with_reducible refine cv3 (Q0 l) (QZ l) (Qu l) ?_
      exact .pure rfl ⟨.inl rfl,.inl rfl,.inl (by rw[yW];rfl),.inl (by rw[gS]),trivial⟩
    ·by_cases zF:l[i.toNat]?.getD 0=91
     ·have jG:=Qok jN j3 zF
      rw[hi]at jG;clear hi jC j3;with_reducible refine cv3 (Q0 l) (QZ l) (Qu l) ?_
      have jC:=QY hn;with_reducible repeat' first|refine aU (zA jC <| zA ai <| zA jB <| zA jN <| zA j0 zF) ?_|refine And.intro ?_ ?_|intro hb
      all_goals
       refine⟨(true,i+1),⟨⟨by show -1<=i+1;omega,by show i+1<=n;omega⟩,jG.symm⟩,?_,[some 0],_,rfl,?_⟩
       ·show(if i+1<0 then 0 else(n-(i+1)+1).toNat)<(if i<0 then 0 else(n-i+1).toNat)
        rw[if_neg (by omega),if_neg (by omega)];omega
       exact eq0
     ·by_cases yy:l[i.toNat]?.getD 0=34
      ·obtain⟨jG,xp⟩:=QeD jN j3 (.inl yy)
       have cCi:=cC i jN jB;have hwb:-1<=Qu l i/\Qu l i<=n/\(Qu l i<0\/i<Qu l i):=by have:=hn.eq;omega
       clear xp;rw[hi]at jG;clear hi jC j3;with_reducible refine cv3 (Q0 l) (QZ l) (Qu l) ?_
       have jC:=QY hn;with_reducible repeat' first|refine aU (zA jC <| zA ai <| zA jB <| zA jN <| zA j0 <| zA zF yy) ?_|refine And.intro ?_ ?_|intro hb
       all_goals
        refine⟨(false,Qu l i),⟨⟨by show -1<=Qu l i;omega,by show Qu l i<=n;omega⟩,jG.symm⟩,?_,[some 0],_,rfl,?_⟩
        ·show(if Qu l i<0 then 0 else(n-Qu l i+1).toNat)<(if i<0 then 0 else(n-i+1).toNat)
         rw[if_neg (show ¬i<0 by omega)]
         split<;>omega
        exact eq0
      ·by_cases zd:l[i.toNat]?.getD 0=39
       ·obtain⟨jG,xp⟩:=QeD jN j3 (.inr zd)
        have cCi:=cC i jN jB;have hwb:-1<=Qu l i/\Qu l i<=n/\(Qu l i<0\/i<Qu l i):=by have:=hn.eq;omega
        clear xp;rw[hi]at jG;clear hi jC j3;with_reducible refine cv3 (Q0 l) (QZ l) (Qu l) ?_
        have jC:=QY hn;with_reducible repeat' first|refine aU (zA jC <| zA ai <| zA jB <| zA jN <| zA j0 <| zA zF <| zA yy zd) ?_|refine And.intro ?_ ?_|intro hb
        all_goals
         refine⟨(false,Qu l i),⟨⟨by show -1<=Qu l i;omega,by show Qu l i<=n;omega⟩,jG.symm⟩,?_,[some 0],_,rfl,?_⟩
         ·show(if Qu l i<0 then 0 else(n-Qu l i+1).toNat)<(if i<0 then 0 else(n-i+1).toNat)
          rw[if_neg (show ¬i<0 by omega)]
          split<;>omega
         exact eq0
       ·have jG:=QjB jN j3 j0 yy zd zF
        rw[hi]at jG;clear hi jC j3;with_reducible refine cv3 (Q0 l) (QZ l) (Qu l) ?_
        have jC:=QY hn;with_reducible repeat' first|refine aU (zA jC <| zA ai <| zA jB <| zA jN <| zA j0 <| zA zF <| zA yy zd) ?_|refine And.intro ?_ ?_|intro hb
        all_goals
         refine⟨(false,i+1),⟨⟨by show -1<=i+1;omega,by show i+1<=n;omega⟩,jG.symm⟩,?_,[some 0],_,rfl,?_⟩
         ·show(if i+1<0 then 0 else(n-(i+1)+1).toNat)<(if i<0 then 0 else(n-i+1).toNat)
          rw[if_neg (by omega),if_neg (by omega)];omega
         exact eq0
  ·have vh:Q4s l (op,i)=(l.length,false):=Qmy (by show i<0\/_<=i;have:=hn.eq;omega)
   rw[vh]at hi;have yW:rt=n:=by rw[zb,<-hi,hn.eq]
   have gS:rb=false:=by rw[yY,<-hi]
   clear hi vh jC;by_cases zP:0<=i
   ·have cH:¬i<n:=fun h=>hc ⟨zP,h⟩
    with_reducible refine cv3 (Q0 l) (QZ l) (Qu l) ?_
    have jC:=QY hn;with_reducible repeat' first|refine aU (zA jC <| zA cH zP) ?_|refine And.intro ?_ ?_|intro hb
    all_goals
     rw[if_pos trivial];with_reducible refine cv3 (Q0 l) (QZ l) (Qu l) ?_
     exact .pure rfl ⟨.inl rfl,.inl rfl,.inl (by rw[yW];exact congrArg _ (congrArg _ jC)),.inl (by rw[gS]),trivial⟩
   ·with_reducible refine cv3 (Q0 l) (QZ l) (Qu l) ?_
    have jC:=QY hn;with_reducible repeat' first|refine aU (zA jC zP) ?_|refine And.intro ?_ ?_|intro hb
    all_goals
     rw[if_pos trivial];with_reducible refine cv3 (Q0 l) (QZ l) (Qu l) ?_
     exact .pure rfl ⟨.inl rfl,.inl rfl,.inl (by rw[yW];exact congrArg _ (congrArg _ jC)),.inl (by rw[gS]),trivial⟩
def Un(l:List Int):Prop:=∀x∈l,-1<=x/\x<=1114111
theorem Un.i32{l:List Int}(h:Un l):I32 l:=fun x hx=>by have:=h x hx;omega
theorem Un.at_{l:List Int}(h:Un l)(i:Int)(h0:0<=i)(h1:i<l.length):-1<=l[i.toNat]?.getD 0/\l[i.toNat]?.getD 0<=1114111:=by
 rw[getElem?_eq_getElem (by omega)]
 exact h _ (getElem_mem _)
def Q5a(l:List Int)(k:Nat):Nat×Nat×Bool:=if Q1p l (k+1) (Qk l (k+1))=true then(2,k+2+Qk l (k+1),true)else(11,k+1,false)
theorem Qex{l:List Int}{k:Nat}(h:Q3 l k [38,35,120]=true):Q3 l k [38,35]=true:=by
 unfold Q3 at h ⊢;rw[Bool.and_eq_true,beq_iff_eq]at h;rw[Bool.and_eq_true,beq_iff_eq];refine⟨by decide,?_⟩
 have h2:=congrArg (List.take 2) h.2;rw[List.take_take]at h2;exact h2
theorem Q6G{l:List Int}{k:Nat}{bs:List UInt8}(h:Q3 l k bs=true){i:Nat}(hi:i<bs.length):l[k+i]?=some ((bs[i].toNat:Nat):Int):=by
 unfold Q3 at h;rw[Bool.and_eq_true,beq_iff_eq]at h;have h2:=congrArg (fun z=>z[i]?) h.2
 simp only[List.getElem?_take,List.getElem?_drop,if_pos hi]at h2;rw[h2,bi,getElem?_map,getElem?_eq_getElem hi];rfl
theorem QpK{l:List Int}{k:Nat}(h:Q3 l k [38,35]=false):Q1e l k=Q5a l k:=by
 have h2:Q3 l k [38,35,120]=false:=by
  cases h3:Q3 l k [38,35,120]with
  |false=>rfl
  |true=>rw[Qex h3]at h;cases h
 rw[Q1e,h,h2];rfl
theorem QqR{l:List Int}{k:Nat}(h:Q3 l k [38,35,120]=true):Q1e l k=if Q1p l (k+3) (Q5O l k)=true then(3,k+4+Q5O l k,true)else Q5a l k:=by
 have h3:l[k+2]?=some 120:=Q6G h (i:=2) (by decide)
 have hd:Q5m l k=0:=by
  obtain⟨hl,e⟩:=List.getElem?_eq_some_iff.1 h3;rw[Q5m,drop_eq_getElem_cons hl,e];rfl
 rw[Q1e,h,hd];cases Q1p l (k+3) (Q5O l k)with
 |true=>rfl
 |false =>
  rw[show Q1p l (k+2) 0=false from rfl];simp only[Bool.and_false,Bool.false_eq_true,if_false];rfl
theorem QqV{l:List Int}{k:Nat}(h1:Q3 l k [38,35]=true)(h2:Q3 l k [38,35,120]=false):Q1e l k=if Q1p l (k+2) (Q5m l k)=true then(3,k+3+Q5m l k,true)else Q5a l k:=by
 rw[Q1e,h1,h2];cases Q1p l (k+2) (Q5m l k)<;>rfl
theorem QU{l:List Int}{p:Nat}{m:Nat}:Q1p l p m=true↔0<m/\p+m<l.length/\l[p+m]?.getD 0=59:=by
 unfold Q1p;rw[Bool.and_eq_true,decide_eq_true_eq,beq_iff_eq];constructor
 ·rintro⟨h1,h2⟩
  have h3:=List.getElem?_eq_some_iff.1 h2;exact⟨h1,h3.1,by rw[h2];rfl⟩
 ·rintro⟨h1,h2,h3⟩
  rw[getElem?_eq_getElem h2]at h3 ⊢;exact⟨h1,congrArg some h3⟩
def QcR(base:Int)(r:Int):Bool:=decide (0<=Q1j r base)
theorem Qcm(r:Int):Q6r r=true↔48<=r/\r<=57:=by
 unfold Q6r Q5l;split
 ·simp only[Bool.false_eq_true,false_iff];omega
 ·simp only[true_iff];omega
theorem Qjd(r:Int):Q7d r=true↔(97<=r/\r<=102)\/(65<=r/\r<=70)\/(48<=r/\r<=57):=by
 unfold Q7d Qac;split
 ·simp only[true_iff];omega
 ·split
  ·simp only[true_iff];omega
  ·have:=Qcm r
   unfold Q6r at this;rw[this];omega
theorem Qhk(r:Int):QlU (isF r 48 57) (isF r 97 102) (isF r 65 70) r=if 65<=r/\r<=70 then r-55 else if 97<=r/\r<=102 then r-87 else if 48<=r/\r<=57 then r-48 else -1:=by
 unfold QlU;simp only[QkG]
theorem QmX(r:Int):QcR 10 r=Q6r r:=by
 rw[Bool.eq_iff_iff,Qcm,QcR,decide_eq_true_eq,Q1j,Qhk];generalize hv:(if 65<=r/\r<=70 then r-55 else if 97<=r/\r<=102 then r-87 else if 48<=r/\r<=57 then r-48 else -1)=v;split at hv
 ·split<;>omega
 ·split at hv
  ·split<;>omega
  ·split at hv<;>(split<;>omega)
theorem Qnq(r:Int):QcR 16 r=Q7d r:=by
 rw[Bool.eq_iff_iff,Qjd,QcR,decide_eq_true_eq,Q1j,Qhk];generalize hv:(if 65<=r/\r<=70 then r-55 else if 97<=r/\r<=102 then r-87 else if 48<=r/\r<=57 then r-48 else -1)=v;split at hv
 ·split<;>omega
 ·split at hv
  ·split<;>omega
  ·split at hv<;>(split<;>omega)
def Q24(l:List Int)(base a:Int):Nat:=((l.drop a.toNat).takeWhile (QcR base)).length
theorem Q72{l:List Int}{base i:Int}(h0:0<=i)(h1:i<l.length)(h:0<=Q1j (l[i.toNat]?.getD 0) base):Q24 l base i=Q24 l base (i+1)+1:=by
 obtain⟨hl,e⟩:=Q5o h0 h1;rw[e]at h;rw[Q24,Q24,drop_eq_getElem_cons hl,List.takeWhile_cons,if_pos (by rw[QcR];exact decide_eq_true h),length_cons,show(i+1).toNat=i.toNat+1 by omega]
theorem Q3A{l:List Int}{base i:Int}(h0:0<=i)(h:i<l.length->¬0<=Q1j (l[i.toNat]?.getD 0) base):Q24 l base i=0:=by
 by_cases h1:i<l.length
 ·obtain⟨hl,e⟩:=Q5o h0 h1
  have h:=h h1;rw[e]at h;rw[Q24,drop_eq_getElem_cons hl,List.takeWhile_cons,if_neg (by rw[QcR];simpa using h)];rfl
 ·rw[Q24,List.drop_of_length_le (by omega)];rfl
theorem QoK(l:List Int)(k:Nat):Q24 l 10 ((k:Int)+2)=Q5m l k:=by
 rw[Q24,Q5m,show((k:Int)+2).toNat=k+2 by omega,show QcR 10=Q6r from funext QmX]
theorem QmV(l:List Int)(k:Nat):Q24 l 16 ((k:Int)+3)=Q5O l k:=by
 rw[Q24,Q5O,show((k:Int)+3).toNat=k+3 by omega,show QcR 16=Q7d from funext Qnq]
theorem Q9w{l:List Int}{k:Nat}(h1:Q3 l k [38,35]=true)(base a:Int)(hb:(Q3 l k [38,35,120]=true/\base=16/\a=(k:Int)+3)\/(Q3 l k [38,35,120]=false/\base=10/\a=(k:Int)+2)) :
  Q1e l k=if Q1p l a.toNat (Q24 l base a)=true then(3,a.toNat+Q24 l base a+1,true)else Q5a l k:=by
 rcases hb with ⟨h2,rfl,rfl⟩|⟨h2,rfl,rfl⟩
 ·rw[QqR h2,QmV,show((k:Int)+3).toNat=k+3 by omega,show k+3+Q5O l k+1=k+4+Q5O l k by omega]
 ·rw[QqV h1 h2,QoK,show((k:Int)+2).toNat=k+2 by omega,show k+2+Q5m l k+1=k+3+Q5m l k by omega]
def Q9t(s1 s2:Bool)(dg:Int->Int->Int)(m:Int):Nat->List AV->List Ob->Option (AV×List Ob):=fun f args _=>match f,args with
 |1000011,_=>some (.val (.bool s1),[])
 |1000016,_=>some (.val (.bool s2),[])
 |120,[.val (.int .i32 r),.val (.int .i64 b)]=>some (.val (.int .i64 (dg r b)),[])
 |121,[.slc 1 _,.val (.int .i64 _)]=>some (.val (.int .i64 m),[])
 |_,_=>none
theorem Q3N{l:List Int}{k m:Int}(h0:0<=k)(hm:m=(Qk l (k.toNat+1):Nat))(h1:0<m)(h2:k+1+m<l.length)(h3:l[(k+1+m).toNat]?.getD 0=59):Q5a l k.toNat=(2,(k+m+2).toNat,true):=by
 rw[Q5a,if_pos (QU.2 ⟨by omega,by omega,by rw[<-h3];congr 2;omega⟩)]
 congr 2
 omega
theorem Q2s{l:List Int}{k m:Int}(h0:0<=k)(hm:m=(Qk l (k.toNat+1):Nat))(h:¬(0<m/\k+1+m<l.length/\l[(k+1+m).toNat]?.getD 0=59)):Q5a l k.toNat=(11,(k+1).toNat,false):=by
 rw[Q5a,if_neg (fun he=>h ?_),show(k+1).toNat=k.toNat+1 by omega]
 obtain⟨e1,e2,e3⟩:=QU.1 he;exact⟨by omega,by omega,by rw[<-e3];congr 2;omega⟩
theorem Qo2(l:List Int)(hl:l.length<=1000000000)(hu:Un l)(k:Int)(h0:0<=k)(h1:k<l.length)(jO:Q3 l k.toNat [38,35]=false):BCall prog 87 [.slc 1 (Q0 l),.val (.int .i64 k)] [] (Q1r ((Q1e l k.toNat).1:Nat) k ((Q1e l k.toNat).2.1:Nat) (Q1e l k.toNat).2.2) []:=by
 have c1:BCall prog 81 [.slc 1 (Q0 l),.val (.int .i64 k),.val (.string ⟨#[38,35]⟩)] [] (.val (.bool (Q3 l k.toNat [38,35]))) []:=Qa l hl hu.i32 k h0 (by omega) ⟨#[38,35]⟩ (by decide)
 have c2:BCall prog 81 [.slc 1 (Q0 l),.val (.int .i64 k),.val (.string ⟨#[38,35,120]⟩)] [] (.val (.bool (Q3 l k.toNat [38,35,120]))) []:=Qa l hl hu.i32 k h0 (by omega) ⟨#[38,35,120]⟩ (by decide)
 have cL:=Q4w l hl (k+1) (by omega) (by omega)
 rw[show(k+1).toNat=k.toNat+1 by omega]at cL
 have jJ:Qk l (k.toNat+1)<=l.length:=by
  unfold Qk;split
  ·omega
  ·split
   ·have:=(List.takeWhile_sublist Qp (l:=l.drop (k.toNat+1))).length_le
    rw[length_drop]at this;omega
   ·omega
 obtain⟨n,hn⟩:=QG l;have jr:=Qx l;have jq:k<n:=by have:=hn.eq;omega
 have qG:n<=1000000000:=by have:=hn.eq;omega
 obtain⟨m,vO⟩:=exq ((Qk l (k.toNat+1):Nat):Int);have qU:0<=m:=by omega
 have qq:m<=n:=by have:=hn.eq;omega
 rw[<-vO]at cL;have hD:∀i:Int,0<=i->i<n->∀base,BCall prog 120 [.val (.int .i32 (l[i.toNat]?.getD 0)),.val (.int .i64 base)] [] (.val (.int .i64 (Q1j (l[i.toNat]?.getD 0) base))) []:=fun i i0 i1 base=>Q4L _ base (hu.at_ i i0 (by have:=hn.eq;omega))
 obtain⟨kd,jD⟩:=exq (((Q1e l k.toNat).1:Nat):Int);obtain⟨tt,jE⟩:=exq (((Q1e l k.toNat).2.1:Nat):Int);obtain⟨ww,jK⟩:=exq ((Q1e l k.toNat).2.2:Bool);rw[<-jD,<-jE,<-jK,Q1r];clear jJ;have jY:=QpK jO;rw[jO]at c1;clear jO c2 hD;by_cases gp:0<m
 ·by_cases v8:k+1+m<n
  ·have ng:k+1+m<l.length:=by have:=hn.eq;omega
   have am:=QN (l:=l) (i:=k+1+m) (by omega) ng
   by_cases nh:l[(k+1+m).toNat]?.getD 0=59
   ·have h9:=ng
    have hT:=Q3N h0 vO gp ng nh;rw[jY,hT]at jD jE jK;have jD:kd=2:=jD;have jE:tt=k+m+2:=by rw[jE];show(((k+m+2).toNat:Nat):Int)=_;omega
    have jK:ww=true:=jK;clear hT jY vO;refine fnN (Q9t false false Q1j m) func87 rfl fun _ _=>?_
    with_reducible refine cv2 (Q0 l) Q1j ?_
    have jC:=QY hn;with_reducible repeat' first|refine aU (zA jC <| zA gp <| zA v8 <| zA am <| zA nh <| zA h0 jq) ?_|refine And.intro ?_ ?_|intro hb
    all_goals exact .pure rfl ⟨.inl (by rw[jD]),.inl rfl,.inl (by first|(rw[jE];done)|(rw[jE];rfl)),.inl (by rw[jK]),trivial⟩
   ·have h9:=ng
    have hT:=Q2s h0 vO (fun h=>nh h.2.2)
    rw[jY,hT]at jD jE jK;have jD:kd=11:=jD;have jE:tt=k+1:=by rw[jE];show(((k+1).toNat:Nat):Int)=_;omega
    have jK:ww=false:=jK;clear hT jY vO;refine fnN (Q9t false false Q1j m) func87 rfl fun _ _=>?_
    with_reducible refine cv2 (Q0 l) Q1j ?_
    have jC:=QY hn;with_reducible repeat' first|refine aU (zA jC <| zA gp <| zA v8 <| zA am <| zA nh <| zA h0 jq) ?_|refine And.intro ?_ ?_|intro hb
    all_goals exact .pure rfl ⟨.inl (by rw[jD]),.inl rfl,.inl (by first|(rw[jE];done)|(rw[jE];rfl)),.inl (by rw[jK]),trivial⟩
  ·have h9:=gp
   have hT:=Q2s h0 vO (fun h=>v8 (by have:=hn.eq;have:=h.2.1;omega))
   rw[jY,hT]at jD jE jK;have jD:kd=11:=jD;have jE:tt=k+1:=by rw[jE];show(((k+1).toNat:Nat):Int)=_;omega
   have jK:ww=false:=jK;clear hT jY vO;refine fnN (Q9t false false Q1j m) func87 rfl fun _ _=>?_
   with_reducible refine cv2 (Q0 l) Q1j ?_
   have jC:=QY hn;with_reducible repeat' first|refine aU (zA jC <| zA gp <| zA v8 <| zA h0 jq) ?_|refine And.intro ?_ ?_|intro hb
   all_goals exact .pure rfl ⟨.inl (by rw[jD]),.inl rfl,.inl (by first|(rw[jE];done)|(rw[jE];rfl)),.inl (by rw[jK]),trivial⟩
 ·have h9:=h0
  have hT:=Q2s h0 vO (fun h=>gp h.1)
  rw[jY,hT]at jD jE jK;have jD:kd=11:=jD;have jE:tt=k+1:=by rw[jE];show(((k+1).toNat:Nat):Int)=_;omega
  have jK:ww=false:=jK;clear hT jY vO;refine fnN (Q9t false false Q1j m) func87 rfl fun _ _=>?_
  with_reducible refine cv2 (Q0 l) Q1j ?_
  have jC:=QY hn;with_reducible repeat' first|refine aU (zA jC <| zA gp <| zA h0 jq) ?_|refine And.intro ?_ ?_|intro hb
  all_goals exact .pure rfl ⟨.inl (by rw[jD]),.inl rfl,.inl (by first|(rw[jE];done)|(rw[jE];rfl)),.inl (by rw[jK]),trivial⟩
end
theorem Qjg{r:Int}(h:Qp r=true):0<Qy r:=by
 rcases(by simpa[Qp]using h:Qf r=true\/Q7u r moreSp=true)with h|h
 ·exact QaB h
 ·have key:∀x∈moreSp,0<=x.1/\x.2<=1114111/\(x.2<55296\/57343<x.1):=by decide
  obtain⟨x,hx,hr⟩:=List.any_eq_true.1 (show moreSp.any (fun x=>decide (x.1<=r)&&decide (r<=x.2))=true from h)
  have hk:=key x hx;simp only[Bool.and_eq_true,decide_eq_true_eq]at hr;unfold Qy;repeat' split
  all_goals omega
theorem Qg5(x:List Int):∀r∈x.take (Qk x 0),Qp r=true:=fun r hr=>by
 cases x with
 |nil=>simp at hr
 |cons a t =>
  have e:Qk (a::t) 0=if Qf a then((a::t).takeWhile Qp).length else 0:=rfl;rw[e]at hr;split at hr
  ·have e2:(a::t).take ((a::t).takeWhile Qp).length=(a::t).takeWhile Qp:=by
    have:=List.takeWhile_append_dropWhile (p:=Qp) (l:=a::t)
    conv=>lhs;arg 2;rw[<-this]
    rw[List.take_left]
   rw[e2]at hr;exact List.all_eq_true.1 (List.all_takeWhile (p:=Qp) (l:=a::t)) r hr
  ·simp at hr
theorem Qg4(t:Txt){f u:Int}(h0:0<=f)(h1:f<=u)(h2:u<=t.r.length):∀r∈QC t f u,Qp r=true:=by
 obtain⟨s,hs⟩:=exq ((t.r.drop f.toNat).take (u-f).toNat);have gU:=Q7v t h0 h1 h2;rw[<-hs]at gU;rw[<-gU]
 have e1:QT s 0 s.length=Qt 0 true s:=by
  unfold QT;rw[toNat_natCast,List.take_length];rfl
 have en:Q2i s=(s.drop (Q1f (Qt 0 true s)).name.from_.toNat).take ((Q1f (Qt 0 true s)).name.to-(Q1f (Qt 0 true s)).name.from_).toNat:=by
  have e2:QB s 0 s.length=Q1f (Qt 0 true s):=by rw[QB,e1]
  show(s.drop (QB s 0 s.length).name.from_.toNat).take ((QB s 0 s.length).name.to-(QB s 0 s.length).name.from_).toNat=_
  rw[e2]
 rw[Q6d]at en;split at en
 ·rename_i ht
  have yW:=(Q3c (Nat.zero_le _)).1 ht;have hl:2<=(Qt 0 true s).length:=by simpa using yW.1
  have j1:((Qt 0 true s)[1]?.getD Qn).kind=2:=yW.2 1 (by decide)
  have qM:s≠[]:=by
   intro h;rw[h,Qt,dif_pos rfl]at hl;simp at hl
  have qa:=Q3i s true qM;rw[Q1J qM]at hl j1 en;obtain⟨x,hx⟩:=exq (s.drop (Qj s true).2.toNat);rw[<-hx]at hl j1 en
  have zy:x≠[]:=by
   intro h;rw[h,Qt,dif_pos rfl]at hl;simp at hl
  have vE:=Q3i x false zy;rw[Q1J zy]at j1 en;have j1:(Qj x false).1=2:=j1;have en:Q2i s=(s.drop (0+(Qj s true).2).toNat).take ((0+(Qj s true).2+(Qj x false).2)-(0+(Qj s true).2)).toNat:=en;rw[show(0+(Qj s true).2).toNat=(Qj s true).2.toNat by omega,<-hx,show((0+(Qj s true).2+(Qj x false).2)-(0+(Qj s true).2)).toNat=(Qj x false).2.toNat by omega]at en
  have jF:(Qj x false).2=(Qk x 0:Int):=by
   unfold Qj at j1 ⊢;rw[if_neg (by simp),if_neg (by simp)]at j1 ⊢
   split at j1
   ·simp at j1
   ·rename_i h3
    rw[if_neg h3];split at j1
    ·rename_i h;rw[if_pos h]
    ·split at j1
     ·simp at j1
     ·split at j1
      ·simp at j1
      ·split at j1<;>simp at j1
  rw[en,jF,toNat_natCast];exact Qg5 x
 ·rw[en]
  intro r hr;simp[Qn]at hr
theorem Qjy(t:Txt){f u:Int}(h0:0<=f)(h1:f<=u)(h2:u<=t.r.length):∀r∈QC t f u,0<Qy r:=fun r hr=>Qjg (Qg4 t h0 h1 h2 r hr)
theorem Qkd{l:List Int}(h:∀x∈l,0<Qy x):(runesBytes l).data.toList=Q1D l:=by
 rw[Q8j,Q1D];refine congrArg List.flatten (List.map_congr_left fun x hx=>?_)
 have hx:=h x hx;rw[Qcp x hx,Q2U,if_neg (by omega)]
theorem Ql9(big:Bool)(l:List UInt8):-1<=(Q1d big l).1/\(Q1d big l).1<=1114111:=by
 match l with
 | []=>exact⟨by show(-1:Int)<=-1;decide,by show(-1:Int)<=1114111;decide⟩
 | [_]=>exact⟨by show(-1:Int)<=-1;decide,by show(-1:Int)<=1114111;decide⟩
 | [x,y] =>
  have h1:=Q2Z big x y;simp only[Q1d];split<;>simp only<;>omega
 | [x,y,z] =>
  have h1:=Q2Z big x y;simp only[Q1d];split<;>simp only<;>omega
 |x::y::x2::y2::r =>
  have h1:=Q2Z big x y;have h2:=Q2Z big x2 y2;simp only[Q1d];split
  ·simp only;omega
  ·split<;>simp only<;>omega
theorem QcQ(big:Bool):∀(n:Nat)(off:Int)(l:List UInt8),l.length<=n->∀x∈Q1n big off l,-1<=x.r/\x.r<=1114111
 |0,off,l,h=>fun x hx=>by
  have:l=[]:=List.eq_nil_of_length_eq_zero (by omega)
  subst this;rw[Q1n,dif_pos rfl]at hx;cases hx
 |n+1,off,l,h=>fun x hx=>by
  by_cases hl:l=[]
  ·subst hl
   rw[Q1n,dif_pos rfl]at hx;cases hx
  ·have hs:=Q6L big l hl
   rw[Q1n,dif_neg hl]at hx;rcases mem_cons.1 hx with rfl|hx
   ·exact Ql9 big l
   ·exact QcQ big n _ _ (by rw[length_drop];omega) x hx
theorem Qfx:∀(n off:Nat)(l:List UInt8),∀x∈(Q22 n off l).map Qc7,-1<=x.r/\x.r<=1114111
 |0,_,_=>fun x hx=>by cases hx
 |_+1,_,[]=>fun x hx=>by cases hx
 |n+1,off,b::t=>fun x hx=>by
  rcases mem_cons.1 (show x∈_::(Q22 n _ _).map Qc7 from hx)with rfl|hx
  ·exact Q4q (b::t)
  ·exact Qfx n _ _ x hx
theorem QnN(b:List UInt8):Un (Q6 b).r:=fun r hr=>by
 obtain⟨x,hx,rfl⟩:=mem_map.1 (show r∈(Q2S b).map Itm.r from hr);rw[Q2S]at hx;rcases Q4J b with h|h|h
 ·rw[Q4a,if_pos h]at hx;exact Qfx _ _ _ x hx
 ·rw[Q4a,if_neg (by omega),if_pos h]at hx;exact QcQ true _ _ _ (le_refl _) x hx
 ·rw[Q4a,if_neg (by omega),if_neg (by omega),if_pos h]at hx;exact QcQ false _ _ _ (le_refl _) x hx
theorem QiU{l:List Int}(h:∀x∈l,0<Qy x):Q3h l=Q1D l:=by
 have key:∀x∈l,(if x=-1 then []else Q1D [x])=Q1D [x]:=fun x hx=>by
  have:=h x hx
  rw[if_neg];rintro rfl;exact absurd this (by decide)
 have e:Q1D l=l.flatMap fun x=>Q1D [x]:=by
  clear h key;induction l with
  |nil=>rfl
  |cons a r ih=>rw[flatMap_cons,<-ih];simp[Q1D]
 rw[e,Q3h];exact congrArg List.flatten (List.map_congr_left key)
theorem Qnk{l:List Int}(h:∀x∈l,0<Qy x):runesBytes l=⟨(Q3h l).toArray⟩:=by
 have e:=Qkd h;rw[QiU h,<-e]
def nmB(K:Int)(bs:List UInt8):Nam:=Q3h (Q2i (Q1K K bs))
def Qna(k:Int):Bool:=decide (k=8)||decide (k=9)
def Qfs(K:Int)(l:List Node)(c:Cur):List Nam:=if Qna (QO l c.n)=true then [nmB K (pr l c.n)]else []
def Qpe(K:Int)(l:List Node)(ws:List Cur):List Nam:=ws.flatMap (Qfs K l)
def QcB(t:Txt)(x:Tok):List Nam:=if Qna x.kind=true then [Q3h (QC t x.from_ x.to)]else []
def QaW(t:Txt)(ts:List Tok):List Nam:=ts.flatMap (QcB t)
def wtN(K:Int)(s:Nam)(bs:List UInt8):Nat:=if nmB K bs=s then 1 else 0
theorem QbL(a s:Nam):[a].count s=if a=s then 1 else 0:=by
 rw[List.count_singleton];simp
theorem Q4c(k:Int):Qna k=true↔k=8\/k=9:=by simp[Qna]
theorem QdE(K:Int)(s:Nam){l:List Node}{R:Int}(hR:QO l R=20):∀(ws:List Cur),(∀c∈ws,QgI R c)->(Qpe K l ws).count s=sT (wtN K s) ((ws.flatMap (evC l)).map Prod.fst)
 | [],_=>rfl
 |c::ws,h=>by
  rw[Qpe,flatMap_cons,List.count_append,flatMap_cons,List.map_append,Qmq,<-QdE K s hR ws fun x hx=>h x (List.mem_cons_of_mem _ hx)]
  have e:(Qfs K l c).count s=sT (wtN K s) ((evC l c).map Prod.fst):=by
   cases c with
   |root n =>
    have hn:n=R:=h _ List.mem_cons_self;have e:QO l (Cur.root n).n=20:=by rw[hn];exact hR
    rw[Qfs,e];rfl
   |kid n f k up =>
    have e:(Cur.kid n f k up).n=n:=rfl;rw[Qfs,e];by_cases h21:QO l n=21
    ·have he:evC l (.kid n f k up)=[(⟨1,0,[]⟩,Q2g l (.kid n f k up))]:=by show(if QO l n=21 then _ else _)=_;rw[if_pos h21]
     rw[he,h21];rfl
    ·have he:evC l (.kid n f k up)=[(⟨2,QO l n,pr l n⟩,Q2g l (.kid n f k up))]:=by show(if QO l n=21 then _ else _)=_;rw[if_neg h21]
     rw[he];show _=(if isT ⟨2,QO l n,pr l n⟩=true then wtN K s (pr l n)else 0)+0;by_cases h8:QO l n=8\/QO l n=9
     ·have e1:isT ⟨2,QO l n,pr l n⟩=true:=by simp[isT,h8]
      rw[if_pos ((Q4c _).2 h8),if_pos e1,QbL,wtN,Nat.add_zero]
     ·have e1:¬isT ⟨2,QO l n,pr l n⟩=true:=by simpa[isT]using h8
      rw[if_neg (fun h=>h8 ((Q4c _).1 h)),if_neg e1];rfl
  rw[e];rfl
theorem QhL(wt:List UInt8->Nat):∀(L:List Ev)(d:Int),sT wt ((pz d L).map Prod.fst)=sT wt L
 | [],_=>rfl
 |e::r,d=>by
  have h1:sT wt (e::r)=(if isT e=true then wt e.b else 0)+sT wt r:=by simp[sT]
  rw[h1];unfold pz;split
  ·have:sT wt ((e,d+1)::pz (d+1) r |>.map Prod.fst)=(if isT e=true then wt e.b else 0)+sT wt ((pz (d+1) r).map Prod.fst):=by simp[sT]
   rw[this,QhL wt r]
  ·split
   ·rename_i h3
    have e3:isT e=false:=by simp[isT,h3]
    rw[QhL wt r,e3];simp
   ·have:sT wt ((e,d)::pz d r |>.map Prod.fst)=(if isT e=true then wt e.b else 0)+sT wt ((pz d r).map Prod.fst):=by simp[sT]
    rw[this,QhL wt r]
theorem QeT(b:List UInt8)(s:Nam):∀ts:List Tok,(∀x∈ts,TokOk (Q6 b).r x)->(QaW (Q6 b) ts).count s=(ts.map fun x=>if x.kind=8\/x.kind=9 then wtN (Q6 b).kind s (QQ (Q6 b) b x.from_ x.to)else 0).sum
 | [],_=>rfl
 |x::ts,h=>by
  rw[QaW,flatMap_cons,List.count_append,List.map_cons,List.sum_cons,<-QeT b s ts fun y hy=>h y (List.mem_cons_of_mem _ hy)]
  have ho:=h x List.mem_cons_self
  have e:(QcB (Q6 b) x).count s=if x.kind=8\/x.kind=9 then wtN (Q6 b).kind s (QQ (Q6 b) b x.from_ x.to)else 0:=by
   rw[QcB];by_cases h8:x.kind=8\/x.kind=9
   ·rw[if_pos ((Q4c _).2 h8),if_pos h8,QbL,wtN,nmB,Q7x b ho.f0 (by have:=ho.f1;omega) ho.f2]
   ·rw[if_neg (fun h=>h8 ((Q4c _).1 h)),if_neg h8];rfl
  rw[e];rfl
def QhF(b:List UInt8):List Nam:=Qpe (Q6 b).kind (Qs (Qc b)).n (Q7c (Qs (Qc b)).n (.root (Qc b).n.length) 1073741824)
def Q5G(b:List UInt8):List Nam:=QaW (Q6 b) (Q2E (Q6 b).r)
theorem QbR(b:List UInt8)(hb:b.length<=100000):(QhF b).Perm (Q5G b):=by
 have hO:=Q8r b hb;obtain⟨h1,h2⟩:=Qjr b hb;have hR:QO (Qs (Qc b)).n (Qc b).n.length=20:=Q4G
 have hin:∀c∈Q7c (Qs (Qc b)).n (.root (Qc b).n.length) 1073741824,QgI (Qc b).n.length c:=fun c hc=>(Q7q (l:=(Qs (Qc b)).n) (Q:=fun c=>CurIn (Qs (Qc b)).n b.length 400000 c/\QgI (Qc b).n.length c) (fun x hx y hy=>⟨Q7W hO.ar hx.1 _ (le_refl _) y hy,QcZ hO.ar hx.1 hx.2 _ (le_refl _) y hy⟩) 1073741824 [.root (Qc b).n.length] (fun x hx=>by
  obtain rfl:x=.root (Qc b).n.length:=by simpa using hx
  exact⟨hO.root,rfl⟩) c hc).2
 refine List.perm_iff_count.2 fun s=>?_
 unfold QhF Q5G;rw[QdE _ s hR _ hin,QoJ b hb,QhL,QeT b s _ (QaX _),<-Qlq];rw[h2]
theorem Qbx{l m:List Nam}(h:l.Perm m):Q2t l=Q2t m:=by
 have h1:(Q2t l).Perm (Q2t m):=(Q4M l).trans (h.trans (Q4M m).symm)
 have key:∀{a b:List Nam},QeF a->QeF b->a.Perm b->a=b:=fun {a} {b} ha hb hp =>
  List.Perm.eq_of_pairwise (fun x y _ _ h1 h2=>List.le_antisymm h1 h2) ha hb hp
 exact key (Q62 l) (Q62 m) h1
section
open Tryz
def Q1G(q:List (Nam×Nat)):List AV:=q.map fun x=>.val (.string (bsB (x.1++(32::Q36 x.2))))
theorem Qan(q:List (Nam×Nat)):(Q1G q).length=q.length:=by simp[Q1G]
theorem Qeg(a b:List (Nam×Nat)):Q1G (a++b)=Q1G a++Q1G b:=by simp[Q1G]
def nbN(n:Int):ByteArray:=bsB (Q36 n)
def rfF(l:List Int)(f u:Int):Int:=(QB l f u).name.from_
def rtF(l:List Int)(f u:Int):Int:=(QB l f u).name.to
def QeB(kd bm:Int)(R O TK:List AV)(rk:Int->Int->Int)(rf rt:Int->Int->Int)(ra:Int->Int->List AV)(rr re:Int->Int->Bool)(dec:Int->ByteArray):Nat->List AV->List Ob->Option (AV×List Ob):=fun f args _=>match f,args with
 |16,[.slc 1 _]=>some (.agg [.val (.int .i64 kd),.val (.int .i64 bm),.slc 1 R,.slc 1 O],[])
 |17,[.slc 1 _]=>some (.slc 4 TK,[])
 |18,[.slc 1 _,.val (.int .i64 a),.val (.int .i64 b)]=>some (.agg [.val (.int .i64 (rk a b)),.val (.int .i64 (rf a b)),.val (.int .i64 (rt a b)),.slc 9 (ra a b),.val (.bool (rr a b)),.val (.bool (re a b))],[])
 |19,[.val (.int .i64 n)]=>some (.val (.string (dec n)),[])
 |_,_=>none
theorem Qo6(l:List Nam){k:Int}(h0:0<=k)(h1:k<l.length):std.nth (std.cel (std.at_ (Ql l) k)) 0=.val (.string (bsB (l[k.toNat]?.getD []))):=by
 have h:k.toNat<l.length:=by omega
 have e:(Ql l).getD k.toNat .dead=.val (.string (bsB (l[k.toNat]?.getD []))):=by
  rw[List.getD_eq_getElem?_getD,Ql,getElem?_map,getElem?_eq_getElem h];rfl
 show(((Ql l).getD k.toNat .dead).cells).getD 0 .dead=_
 rw[e];rfl
theorem Q8p{l:List Nam}{k:Int}(h0:0<=k)(h1:k<l.length):std.nth (std.drp (std.cel (std.at_ (Ql l) k)) 0) 0=.val (.string (bsB (l[k.toNat]?.getD []))):=Qo6 l h0 h1
theorem QlJ{s:Nam}{S:List Nam}{k:Int}(h:0<k):kGo s S k.toNat=if ltN s (S[(k-1).toNat]?.getD [])=true then kGo s S (k-1).toNat else k.toNat:=by
 obtain⟨j,hj⟩:∃j,k.toNat=j+1:=⟨k.toNat-1,by omega⟩
 rw[hj,show(k-1).toNat=j by omega,kGo]
theorem Qny(l:List Nam)(n:Nam)(k:Nat)(hk:k=kGo n l l.length):std.app (std.app (std.app [] (std.cut (Ql l) 0 k)) [.val (.string (bsB n))]) (std.cut (Ql l) k (std.len (Ql l)))=Ql (Q66 l n):=by
 have jJ:=Qdi n l l.length
 have e1:std.cut (Ql l) 0 (k:Int)=Ql (l.take k):=by
  show((Ql l).drop (0:Int).toNat).take ((k:Int)-0).toNat=_
  rw[show((k:Int)-0).toNat=k by omega,Ql,Ql,map_take];rfl
 have e2:std.cut (Ql l) (k:Int) (std.len (Ql l))=Ql (l.drop k):=by
  show((Ql l).drop (k:Int).toNat).take (((Ql l).length:Int)-(k:Int)).toNat=_
  rw[toNat_natCast,Q3k,List.take_of_length_le (by rw[length_drop,Q3k];omega),Ql,Ql,map_drop]
 rw[e1,e2,Q66,QaC,QaC,<-hk];rfl
theorem Qmj(l:List Nam)(n:Nam)(k:Int)(h0:0<=k)(hk:k.toNat=kGo n l l.length):std.app (std.app (std.app [] (std.cut (Ql l) 0 k)) [.val (.string (bsB n))]) (std.cut (Ql l) k (std.len (Ql l)))=Ql (Q66 l n):=by
 have h:=Qny l n k.toNat hk;rw[Int.toNat_of_nonneg h0]at h;exact h
theorem QpY(L:List Nam)(i n:Nat)(h:i<L.length):Q5I n (L.drop i)=if i+1=L.length\/L[i+1]?.getD []≠L[i]?.getD []then(L[i]?.getD [],n+1)::Q5I 0 (L.drop (i+1))else Q5I (n+1) (L.drop (i+1)):=by
 rw[drop_eq_getElem_cons h];by_cases h2:i+1<L.length
 ·rw[drop_eq_getElem_cons h2,Q5I,getElem?_eq_getElem h,getElem?_eq_getElem h2]
  by_cases e:L[i+1]=L[i]
  ·rw[if_pos e,if_neg]
   rintro(h3|h3)
   ·omega
   ·exact h3 e
  ·rw[if_neg e,if_pos (.inr e)];rfl
 ·rw[List.drop_of_length_le (by omega),if_pos (.inl (by omega)),getElem?_eq_getElem h];rfl
theorem QjA(l:List Int)(a c:Nat):(((Q0 l).drop a).take c).map RowKit.intOf=(l.drop a).take c:=by
 rw[map_take,map_drop];congr 2
 unfold Q0;rw[List.map_map];exact List.map_id _
theorem Qlt(l:List Int)(a c:Int):(std.isR (std.cut (Q0 l) a c)).q:=fun x hx=>by
 have hx:x∈Q0 l:=List.drop_subset _ _ (List.take_subset _ _ hx);obtain⟨n,_,rfl⟩:=mem_map.1 hx;exact⟨n,rfl⟩
theorem Qkz(b:List UInt8)(kd bm:Int)(O:List AV)(l:List Int)(hln:l.length<=400)(ts:List Tok)(hts:∀x∈ts,TokOk l x)(cG:ts.length<=400)(rk:Int->Int->Int)(ra:Int->Int->List AV)(rr re:Int->Int->Bool)
  (nm:Tok->List Nam) (qf:∀x∈ts,(¬(x.kind=8\/x.kind=9)->nm x=[])/\(x.kind=8\/x.kind=9->∃s:Nam,nm x=[s]/\s.length<=100000/\0<=rfF l x.from_ x.to/\rfF l x.from_ x.to<=rtF l x.from_ x.to/\rtF l x.from_ x.to<=l.length/\std.strR (std.cut (Q0 l) (rfF l x.from_ x.to) (rtF l x.from_ x.to))=bsB s))
  (cD:BCall prog 16 [.slc 1 (Q4 b)] [] (.agg [.val (.int .i64 kd),.val (.int .i64 bm),.slc 1 (Q0 l),.slc 1 O]) [])
  (cT:BCall prog 17 [.slc 1 (Q0 l)] [] (.slc 4 (QS ts)) [])
  (cRd:∀f u:Int,0<=f->f<=u->u<=l.length->BCall prog 18 [.slc 1 (Q0 l),.val (.int .i64 f),.val (.int .i64 u)] [] (.agg [.val (.int .i64 (rk f u)),.val (.int .i64 (rfF l f u)),.val (.int .i64 (rtF l f u)),.slc 9 (ra f u),.val (.bool (rr f u)),.val (.bool (re f u))]) []) :
  BCall prog 6 [.slc 1 (Q4 b)] [] (.slc 1 (Q1G (Q3X (Q2t (ts.flatMap nm))))) []:=by
 obtain⟨m,hm⟩:=QG ts;have zT:std.len (QS ts)=m:=by show((QS ts).length:Int)=m;rw[Q7L,hm.eq]
 have vO:0<=m/\m<=400:=by rw[hm.eq];omega
 obtain⟨nl,yU⟩:=QG l;have gz:std.len (Q0 l)=nl:=by show((Q0 l).length:Int)=nl;rw[Qx,yU.eq]
 have yp:∀x∈ts.flatMap nm,x.length<=100000:=fun x hx=>by
  obtain⟨y,hy,pB⟩:=List.mem_flatMap.1 hx;by_cases h:y.kind=8\/y.kind=9
  ·obtain⟨s,e,h2,_⟩:=(qf y hy).2 h
   rw[e]at pB;obtain rfl:x=s:=by simpa using pB
   exact h2
  ·rw[(qf y hy).1 h]at pB;cases pB
 obtain⟨RES,zR⟩:∃RES,Q1G (Q3X (Q2t (ts.flatMap nm)))=RES:=⟨_,rfl⟩;rw[zR];refine fnN (QeB kd bm (Q0 l) O (QS ts) rk (rfF l) (rtF l) ra rr re nbN) func6 rfl fun _ _=>?_
 with_reducible refine cv6 (Q0 l) (QS ts) (rfF l) (rtF l) nbN (Q4 b) ?_
 refine⟨cD,cT,?_⟩;refine Q1h (QeB kd bm (Q0 l) O (QS ts) rk (rfF l) (rtF l) ra rr re nbN) (Int×List Nam) (fun x=>⟨[(3,.box 0 0),(4,.row 1 0),(19,.slc 4 (QS ts)),(20,.val (.int .i64 m)),(21,.val (.int .i64 x.1))],[.box [.val (.int .i64 kd),.val (.int .i64 bm),.slc 1 (Q0 l),.slc 1 O],.row 9 1 false 0 (Ql x.2)]⟩) (fun x=>0<=x.1/\x.1<=m/\x.2=Q2t ((ts.take x.1.toNat).flatMap nm)/\(x.2.length:Int)<=x.1) (fun x=>(m-x.1).toNat) (0,[]) ?_ ?_ ?_
 ·exact⟨Int.le_refl 0,vO.1,rfl,Int.le_refl 0⟩
 ·refine⟨[some 0,none],_,rfl,?_⟩
  have e1:Ql ((0,[]):Int×List Nam).2=[]:=rfl;rw[e1];exact eq1 zT
 ·rintro⟨i,S⟩ ⟨jN,qn,hJ,hSl⟩
  simp only at jN qn hJ hSl
  obtain⟨nS,zq⟩:=QG S;have gW:std.len (Ql S)=nS:=by show((Ql S).length:Int)=_;rw[Q3k,zq.eq]
  rw[<-zq.eq]at hSl;have py:0<=nS:=by rw[zq.eq];omega
  have ei:(i+1).toNat=i.toNat+1:=by omega
  rcases Int.lt_or_eq_of_le qn with jB|j4
  ·have j3:i.toNat<ts.length:=by have:=hm.eq;omega
   obtain⟨x,hx⟩:=exq (ts[i.toNat]);have pI:x∈ts:=by rw[hx];exact getElem_mem j3
   have jX:std.at_ (QS ts) i=x.av:=by
    show(QS ts).getD i.toNat .dead=_
    rw[List.getD_eq_getElem?_getD,QS,getElem?_map,getElem?_eq_getElem j3,hx];rfl
   have jA:=hts x pI;obtain⟨vJ,gX⟩:=qf x pI
   have jb:(ts.take (i+1).toNat).flatMap nm=(ts.take i.toNat).flatMap nm++nm x:=by
    rw[ei,List.take_succ_eq_append_getElem j3,List.flatMap_append,<-hx];simp
   have cR:=cRd x.from_ x.to jA.f0 (Int.le_of_lt jA.f1) jA.f2;have hX:std.int (std.nth (std.cel (std.at_ (QS ts) i)) 0)=x.kind:=by rw[jX];rfl
   have hF:std.int (std.nth (std.cel (std.at_ (QS ts) i)) 1)=x.from_:=by rw[jX];rfl
   have hU:std.int (std.nth (std.cel (std.at_ (QS ts) i)) 2)=x.to:=by rw[jX];rfl
   have xY:(std.all [std.hasI .i64 (std.nth (std.cel (std.at_ (QS ts) i)) 0),std.hasI .i64 (std.nth (std.cel (std.at_ (QS ts) i)) 1),std.hasI .i64 (std.nth (std.cel (std.at_ (QS ts) i)) 2),std.hasB (std.nth (std.cel (std.at_ (QS ts) i)) 3)]).q:=by rw[jX];exact⟨rfl,rfl,rfl,rfl,trivial⟩
   generalize x.kind=kk at hX vJ gX;generalize x.from_=F at hF cR gX;generalize x.to=U at hU cR gX;have qD:std.ltI i m=true:=decide_eq_true jB;have jS:i<std.len (QS ts):=by rw[zT];exact jB
   have vB:(std.inR .i64 (std.add i 1)).q:=by
    show -9223372036854775808<=i+1/\i+1<=9223372036854775807;omega
   clear hx pI jX j3 jA cRd cD cT qf hts;by_cases gY:kk=8\/kk=9
   ·obtain⟨s,jO,jV,f0,f1,f2,hsS⟩:=gX gY
    rw[jO]at jb
    have yq:Q66 S s=Q2t ((ts.take (i+1).toNat).flatMap nm):=by
     rw[jb,hJ,Q2t,Q2t,List.foldl_append];rfl
    have vV:(Q66 S s).length=S.length+1:=by rw[(Qcn S s).length_eq];rfl
    have hiA:=fun k h0 hk=>Qmj S s k h0 hk
    have hSn:S.length<=400:=by have:=zq.eq;omega
    have qW:∀a c:Int,(std.cut (Ql S) a c).length<=400:=fun a c=>by
     show(((Ql S).drop _).take _).length<=_
     rw[List.length_take,length_drop,Q3k];omega
    have nA:((Q66 S s).length:Int)<=i+1:=by
     rw[vV,Int.natCast_add,<-zq.eq];show nS+1<=i+1;omega
    have hkle:=Qdi s S S.length;rw[<-yU.eq]at f2;clear vJ gX hJ jb jO;rcases gY with rfl|rfl
    all_goals
     generalize hC:Code.region 7 _ _=C7;generalize hp:std=p;generalize hTK:QS ts=TK;rw[hp,hTK]at hX hF hU;generalize za:Q0 l=rx;generalize vQ:rfF l=rf;generalize zb:rtF l=rt;generalize gZ:nbN=dec;generalize hAA:Ql S=A;generalize hT:Q1o p tys (QeB kd bm rx O TK rk rf rt ra rr re dec) _ _ _ _=T;cbv at hT;obtain⟨dd,hdd⟩:∃dd:Nat,1+1=dd:=⟨_,rfl⟩;cbv at hdd;rw[hX,hF,hU]at hT;subst hC;cbv at hT;subst hT;simp only[Tree.ok,Q1u,S0];subst hp hTK za vQ zb gZ hAA;refine⟨fun _=>⟨⟨jN,jS⟩,xY,?_⟩,fun h=>absurd (qD.symm.trans h) (by decide)⟩
     first
      |refine⟨fun _=>⟨cR,?_⟩,fun h=>absurd h (by decide)⟩
      |refine⟨fun h=>absurd h (by decide),fun _=>⟨fun _=>⟨cR,?_⟩,fun h=>absurd h (by decide)⟩⟩
     refine⟨⟨f0,f1,by show rtF l F U<=std.len (Q0 l);rw[gz];exact f2⟩,Qlt l _ _,?_⟩
     refine Q1h (QeB kd bm (Q0 l) O (QS ts) rk (rfF l) (rtF l) ra rr re nbN) (Int) (fun k=>⟨[(3,.box 0 0),(4,.row 1 0),(8,.val (.string (bsB s))),(9,.val (.int .i64 k)),(19,.slc 4 (QS ts)),(20,.val (.int .i64 m)),(21,.val (.int .i64 i))],[.box [.val (.int .i64 kd),.val (.int .i64 bm),.slc 1 (Q0 l),.slc 1 O],.row 9 1 false 0 (Ql S)]⟩) (fun k=>0<=k/\k<=nS/\kGo s S k.toNat=kGo s S S.length) (fun k=>k.toNat) nS ?_ ?_ ?_
     ·exact⟨py,Int.le_refl _,by rw[show nS.toNat=S.length by rw[zq.eq];exact toNat_natCast _]⟩
     ·refine⟨[some 0,some 1],_,rfl,?_⟩
      exact eq2 hsS gW
     ·rintro k ⟨qI,jT,hk⟩
      have qI:0<=k:=qI;have jT:k<=nS:=jT;have hk:kGo s S k.toNat=kGo s S S.length:=hk;with_reducible refine cv7 (Q0 l) (QS ts) (rfF l) (rtF l) nbN (Ql S) (bsB s) ?_
      have vq:0<k->0<=k-1/\k-1<nS:=fun h=>by omega
      refine⟨fun h1=>?_,fun h1=>?_⟩
      ·have h1:0<k:=of_decide_eq_true h1
       have yC:=Q8p (l:=S) (k:=k-1) (vq h1).1 (by rw[<-zq.eq];exact(vq h1).2)
       have jG:=QlJ (s:=s) (S:=S) h1;refine⟨(show(-9223372036854775808:Int)<=k-1/\k-1<=(9223372036854775807:Int) from by omega),⟨(vq h1).1,by show k-1<std.len (Ql S);rw[gW];exact(vq h1).2⟩,⟨?_,trivial⟩,fun h2=>?_,fun h2=>?_⟩
       ·show std.nth (std.drp (std.cel (std.at_ (Ql S) (k-1))) 0) 0=.val (.string (std.str (std.nth (std.drp (std.cel (std.at_ (Ql S) (k-1))) 0) 0)))
        rw[yC];rfl
       ·have h2:std.ltS (bsB s) (std.str (std.nth (std.drp (std.cel (std.at_ (Ql S) (k-1))) 0) 0))=true:=h2
        rw[yC]at h2;have h2:std.ltS (bsB s) (bsB (S[(k-1).toNat]?.getD []))=true:=h2;rw[Qk3]at h2;rw[if_pos h2]at jG;refine⟨(show(-9223372036854775808:Int)<=k-1/\k-1<=(9223372036854775807:Int) from by omega),k-1,⟨(vq h1).1,by omega,jG.symm.trans hk⟩,by omega,[some 0,some 1],_,rfl,?_⟩
        exact eq0
       ·have h2:std.ltS (bsB s) (std.str (std.nth (std.drp (std.cel (std.at_ (Ql S) (k-1))) 0) 0))=false:=h2
        rw[yC]at h2;have h2:std.ltS (bsB s) (bsB (S[(k-1).toNat]?.getD []))=false:=h2;rw[Qk3]at h2;rw[if_neg (by rw[h2];simp)]at jG
        have vq:k.toNat=kGo s S S.length:=jG.symm.trans hk;clear h1;clear h2 jG yC hk;have eO:std.app (std.app (std.app [] (std.cut (Ql S) 0 k)) [.val (.string (bsB s))]) (std.cut (Ql S) k (std.len (Ql S)))=Ql (Q66 S s):=hiA _ qI vq;rw[if_pos trivial];with_reducible refine cv7 (Q0 l) (QS ts) (rfF l) (rtF l) nbN (Ql S) (bsB s) ?_
        refine⟨⟨Int.le_refl 0,qI,by show k<=std.len (Ql S);rw[gW];exact jT⟩,?_,?_,⟨qI,by show k<=std.len (Ql S);rw[gW];exact jT,Int.le_refl _⟩,?_,vB,(i+1,Q66 S s),⟨by show 0<=i+1;omega,by show i+1<=m;omega,yq,nA⟩,by show(m-(i+1)).toNat<(m-i).toNat;omega,[some 0,some 2],_,rfl,?_⟩
        ·show([]:List AV).length+(std.cut (Ql S) 0 k).length<=1000000000
         have:=qW 0 k
         rw[length_nil];omega
        ·show(([]:List AV)++std.cut (Ql S) 0 k).length+1<=1000000000
         have:=qW 0 k
         rw[length_append,length_nil];omega
        ·show((([]:List AV)++std.cut (Ql S) 0 k)++[AV.val (.string (bsB s))]).length+(std.cut (Ql S) k (std.len (Ql S))).length<=1000000000
         have h1:=qW 0 k;have h2:=qW k (std.len (Ql S));rw[length_append,length_append,length_nil,length_singleton];omega
        ·exact eq1 eO
      ·have h1:¬0<k:=of_decide_eq_false h1
       obtain rfl:k=0:=by omega
       have vq:(0:Int).toNat=kGo s S S.length:=hk;clear h1;clear hk;have eO:std.app (std.app (std.app [] (std.cut (Ql S) 0 0)) [.val (.string (bsB s))]) (std.cut (Ql S) 0 (std.len (Ql S)))=Ql (Q66 S s):=hiA _ qI vq;rw[if_pos trivial];with_reducible refine cv7 (Q0 l) (QS ts) (rfF l) (rtF l) nbN (Ql S) (bsB s) ?_
       refine⟨⟨Int.le_refl 0,qI,by show 0<=std.len (Ql S);rw[gW];exact jT⟩,?_,?_,⟨qI,by show 0<=std.len (Ql S);rw[gW];exact jT,Int.le_refl _⟩,?_,vB,(i+1,Q66 S s),⟨by show 0<=i+1;omega,by show i+1<=m;omega,yq,nA⟩,by show(m-(i+1)).toNat<(m-i).toNat;omega,[some 0,some 2],_,rfl,?_⟩
       ·show([]:List AV).length+(std.cut (Ql S) 0 0).length<=1000000000
        have:=qW 0 0
        rw[length_nil];omega
       ·show(([]:List AV)++std.cut (Ql S) 0 0).length+1<=1000000000
        have:=qW 0 0
        rw[length_append,length_nil];omega
       ·show((([]:List AV)++std.cut (Ql S) 0 0)++[AV.val (.string (bsB s))]).length+(std.cut (Ql S) 0 (std.len (Ql S))).length<=1000000000
        have h1:=qW 0 0;have h2:=qW 0 (std.len (Ql S));rw[length_append,length_append,length_nil,length_singleton];omega
       ·exact eq1 eO
   ·have zr:=vJ gY
    rw[zr,List.append_nil]at jb;rw[<-jb]at hJ
    have jI:std.eqI kk 8=false/\std.eqI kk 9=false:=by
     constructor
     ·show(kk == 8)=false
      simp only[beq_eq_false_iff_ne,ne_eq];omega
     ·show(kk == 9)=false
      simp only[beq_eq_false_iff_ne,ne_eq];omega
    clear vJ gX jb zr gY cR hF hU;rw[<-hX]at jI;with_reducible refine cv6 (Q0 l) (QS ts) (rfF l) (rtF l) nbN (Ql S) ?_
    refine⟨fun _=>⟨⟨jN,jS⟩,xY,fun h=>absurd (jI.1.symm.trans h) (by decide),fun _=>⟨fun h=>absurd (jI.2.symm.trans h) (by decide),fun _=>⟨vB,(i+1,S),⟨by show 0<=i+1;omega,by show i+1<=m;omega,hJ,?_⟩,by show(m-(i+1)).toNat<(m-i).toNat;omega,[some 0,some 1],_,rfl,?_⟩⟩⟩,fun h=>absurd (qD.symm.trans h) (by decide)⟩
    ·have:=zq.eq
     show(S.length:Int)<=i+1
     omega
    ·exact eq0
  ·have vt:std.ltI i m=false:=decide_eq_false (by omega)
   have hS:S=Q2t (ts.flatMap nm):=by
    rw[hJ,List.take_of_length_le (by have:=hm.eq;omega)]
   have hSb:∀x∈S,x.length<=100000:=fun x hx=>yp x ((Q4M _).mem_iff.1 (hS ▸ hx))
   rw[<-hS]at zR;have hnS9:nS<=400:=by omega
   clear hJ hS yp cRd qf hts cD cT hSl;with_reducible refine cv6 (Q0 l) (QS ts) (rfF l) (rtF l) nbN (Ql S) ?_
   refine⟨fun h=>absurd (vt.symm.trans h) (by decide),fun _=>?_⟩
   rw[if_pos trivial];with_reducible refine cv6 (Q0 l) (QS ts) (rfF l) (rtF l) nbN (Ql S) ?_
   refine Q1h (QeB kd bm (Q0 l) O (QS ts) rk (rfF l) (rtF l) ra rr re nbN) (Int×Nat×List (Nam×Nat)) (fun x=>⟨[(4,.row 0 0),(11,.row 1 0),(12,.val (.int .i64 x.2.1)),(80,.row 0 0),(81,.val (.int .i64 nS)),(82,.val (.int .i64 x.1))],[.row 9 1 false 0 (Ql S),.row 9 1 false 0 (Q1G x.2.2)]⟩) (fun x=>0<=x.1/\x.1<=nS/\x.2.2++Q5I x.2.1 (S.drop x.1.toNat)=Q3X S/\(x.2.1:Int)<=x.1/\(x.2.2.length:Int)<=x.1) (fun x=>(nS-x.1).toNat) (0,0,[]) ?_ ?_ ?_
   ·exact⟨Int.le_refl 0,py,rfl,Int.le_refl 0,Int.le_refl 0⟩
   ·refine⟨[some 1,none],_,rfl,?_⟩
    have e1:Q1G ((0,0,[]):Int×Nat×List (Nam×Nat)).2.2=[]:=rfl;rw[e1];exact eq1 gW
   ·clear jN qn ei j4 vt
    rintro⟨i,n,o⟩ ⟨jN,qn,hJ,hn,ho⟩;simp only at jN qn hJ hn ho
    have jR:=Qan o;have ei:(i+1).toNat=i.toNat+1:=by omega
    rcases Int.lt_or_eq_of_le qn with jB|j4
    ·have ni:i.toNat<S.length:=by have:=zq.eq;omega
     have yC:=Q8p (l:=S) (k:=i) jN (by rw[<-zq.eq];exact jB)
     have xU:=QpY S i.toNat n ni;obtain⟨s,hs⟩:∃s,S[i.toNat]?.getD []=s:=⟨_,rfl⟩
     have qu:s.length<=100000:=by
      rw[<-hs,getElem?_eq_getElem ni];exact hSb _ (getElem_mem ni)
     have xm:i+1<nS->std.nth (std.drp (std.cel (std.at_ (Ql S) (i+1))) 0) 0=.val (.string (bsB (S[i.toNat+1]?.getD []))):=fun h=>by
      have:=Q8p (l:=S) (k:=i+1) (by omega) (by rw[<-zq.eq];exact h)
      rw[ei]at this;exact this
     have vW:i+1=nS↔i.toNat+1=S.length:=by have:=zq.eq;omega
     rw[hs]at yC xU;rw[xU]at hJ
     have jj:(i+1=nS\/S[i.toNat+1]?.getD []≠s)->(o++[(s,n+1)])++Q5I 0 (S.drop (i+1).toNat)=Q3X S:=fun h=>by
      rw[if_pos (h.imp_left vW.1)]at hJ;rw[ei,List.append_assoc];exact hJ
     have j6:¬(i+1=nS\/S[i.toNat+1]?.getD []≠s)->o++Q5I (n+1) (S.drop (i+1).toNat)=Q3X S:=fun h=>by
      rw[if_neg (fun h2=>h (h2.imp_left vW.2))]at hJ
      rw[ei];exact hJ
     have cN:BCall prog 19 [.val (.int .i64 (std.add (Int.ofNat n) 1))] [] (.val (.string (nbN (std.add (Int.ofNat n) 1)))) []:=QiE ((n:Int)+1) (by omega) (by omega)
     have eO:std.app (Q1G o) [.val (.string (std.catS (std.catS (std.str (std.nth (std.drp (std.cel (std.at_ (Ql S) i)) 0) 0)) ⟨#[32]⟩) (nbN (std.add (Int.ofNat n) 1))))]=Q1G (o++[(s,n+1)]):=by
      rw[yC,Qeg];show Q1G o++[AV.val (.string (std.catS (std.catS (bsB s) (bsB [32])) (bsB (Q36 ((n:Int)+1)))))]=_;rw[Q5g,Q5g,List.append_assoc];rfl
     have eN:std.add (Int.ofNat n) 1=Int.ofNat (n+1):=rfl
     have q6:(std.inR .i64 (std.add i 1)).q/\(std.inR .i64 (std.add (Int.ofNat n) 1)).q:=by
      constructor
      ·show -9223372036854775808<=i+1/\i+1<=9223372036854775807
       omega
      ·show -9223372036854775808<=(n:Int)+1/\(n:Int)+1<=9223372036854775807
       omega
     have vH:(std.catok (std.str (std.nth (std.drp (std.cel (std.at_ (Ql S) i)) 0) 0)) ⟨#[32]⟩).q:=by
      rw[yC];show((((bsB s).size+1:Nat)):Int)<=9223372036854775807
      rw[Q3p];omega
     have vm:(std.catok (std.catS (std.str (std.nth (std.drp (std.cel (std.at_ (Ql S) i)) 0) 0)) ⟨#[32]⟩) (nbN (std.add (Int.ofNat n) 1))).q:=by
      rw[yC];have h1:=Q7X ((n:Int)+1) (by omega)
      show(((std.catS (bsB s) (bsB [32])).size+(bsB (Q36 ((n:Int)+1))).size:Nat):Int)<=9223372036854775807
      rw[Q5g,Q3p,Q3p,length_append,length_singleton];omega
     have nj:(std.hasS (std.nth (std.drp (std.cel (std.at_ (Ql S) i)) 0) 0)).q:=by rw[yC];rfl
     have jQ:(Q1G o).length+1<=1000000000:=by rw[jR];omega
     clear hJ xU hSb hs ni;with_reducible refine cv7 (Q0 l) (QS ts) (rfF l) (rtF l) nbN (Ql S) (Q1G o) ?_
     refine⟨fun _=>⟨⟨jN,by show i<std.len (Ql S);rw[gW];exact jB⟩,⟨nj,trivial⟩,q6.2,q6.1,fun he=>?_,fun he=>⟨q6.1,?_,?_,fun hq=>?_,fun hq=>?_⟩⟩,fun h=>absurd ((show std.ltI i nS=true from decide_eq_true jB).symm.trans h) (by decide)⟩
     ·have he:std.eqI (i+1) (std.len (Ql S))=true:=he
      rw[gW]at he;have he:i+1=nS:=by simpa[std]using he
      refine⟨vH,cN,vm,jQ,q6.1,(i+1,0,o++[(s,n+1)]),⟨by show 0<=i+1;omega,by show i+1<=nS;omega,jj (.inl he),by show((0:Nat):Int)<=i+1;omega,?_⟩,by show(nS-(i+1)).toNat<(nS-i).toNat;omega,[some 0,some 1],_,rfl,?_⟩
      ·show((o++[(s,n+1)]).length:Int)<=i+1
       rw[length_append,length_singleton];omega
      ·exact eq1 eO
     all_goals
      have he:std.eqI (i+1) (std.len (Ql S))=false:=he;rw[gW]at he;have he:¬i+1=nS:=by simpa[std]using he
      have hd3:=xm (by omega)
     ·exact⟨by show(0:Int)<=i+1;omega,by show i+1<std.len (Ql S);rw[gW];omega⟩
     ·refine⟨?_,trivial⟩
      show std.nth (std.drp (std.cel (std.at_ (Ql S) (i+1))) 0) 0=.val (.string (std.str (std.nth (std.drp (std.cel (std.at_ (Ql S) (i+1))) 0) 0)));rw[hd3];rfl
     all_goals
      have hq:std.notB (std.eqS (std.str (std.nth (std.drp (std.cel (std.at_ (Ql S) (i+1))) 0) 0)) (std.str (std.nth (std.drp (std.cel (std.at_ (Ql S) i)) 0) 0)))=_:=hq;rw[hd3,yC]at hq;have hq:std.notB (std.eqS (bsB (S[i.toNat+1]?.getD [])) (bsB s))=_:=hq;rw[QkX]at hq
     ·have hq:S[i.toNat+1]?.getD []≠s:=fun e=>by
       rw[decide_eq_true e]at hq;exact absurd hq (by decide)
      refine⟨vH,cN,vm,jQ,q6.1,(i+1,0,o++[(s,n+1)]),⟨by show 0<=i+1;omega,by show i+1<=nS;omega,jj (.inr hq),by show((0:Nat):Int)<=i+1;omega,?_⟩,by show(nS-(i+1)).toNat<(nS-i).toNat;omega,[some 0,some 1],_,rfl,?_⟩
      ·show((o++[(s,n+1)]).length:Int)<=i+1
       rw[length_append,length_singleton];omega
      ·exact eq1 eO
     ·have hq:¬S[i.toNat+1]?.getD []≠s:=fun e=>by
       rw[decide_eq_false e]at hq;exact absurd hq (by decide)
      refine⟨q6.1,(i+1,n+1,o),⟨by show 0<=i+1;omega,by show i+1<=nS;omega,j6 (fun h=>h.elim he hq),?_,by show(o.length:Int)<=i+1;omega⟩,by show(nS-(i+1)).toNat<(nS-i).toNat;omega,[some 0,some 1],_,rfl,?_⟩
      ·show((n+1:Nat):Int)<=i+1
       omega
      ·exact eq1 eN
    ·have yr:o=Q3X S:=by
      rw[List.drop_of_length_le (by have:=zq.eq;omega)]at hJ
      rw[<-hJ];show o=o++[];rw[List.append_nil]
     rw[yr,zR];have vt:std.ltI i nS=false:=decide_eq_false (by omega)
     with_reducible refine cv6 (Q0 l) (QS ts) (rfF l) (rtF l) nbN (Ql S) ?_
     refine⟨fun h=>absurd (vt.symm.trans h) (by decide),fun _=>?_⟩
     rw[if_pos trivial];with_reducible refine cv6 (Q0 l) (QS ts) (rfF l) (rtF l) nbN (Ql S) ?_
     exact .pure rfl (.inl rfl)
theorem Qnr(t:Txt)(m:Mk)(ht:t.kind=0\/t.kind=1\/t.kind=2)(n:Int)(h:NmOk t m n)(hk:QO (Qs m).n n=9) :
  BCall prog 12 [Q7e t m,.val (.int .i64 n)] [] (.val (.string (nmS (ruN t.kind (Qs m).n n)))) []:=by
 have cK:=QfN (Qs m).n n;rw[show(Qh (Qs m).n n).kind=9 from hk]at cK;have cK2:=cK;have cA:=cK;have hp:(Q4a t.kind (pr (Qs m).n n)).length<=1000000:=Nat.le_trans (Q9T ht _) h.p.p;have cR:=QeZ t m n h.p hp;have je:=h.l;have qB:(ruN t.kind (Qs m).n n).length<=1000000:=by rw[ruN,Q1K,List.length_map];exact hp
 generalize ruN t.kind (Qs m).n n=r at cR je qB ⊢;have jS:=Q9M r 0 r.length (Int.le_refl 0) (by omega) (Int.le_refl _)
 have cD:=QaH r qB 0 r.length (Int.le_refl 0) (by omega) (Int.le_refl _)
 have cS:=QaL r qB (QB r 0 r.length).name.from_ (QB r 0 r.length).name.to jS.1 jS.2.1 jS.2.2 (QdP je);have eS:(⟨(Q3h ((r.drop (QB r 0 r.length).name.from_.toNat).take ((QB r 0 r.length).name.to-(QB r 0 r.length).name.from_).toNat)).toArray⟩:ByteArray)=nmS r:=rfl;rw[eS]at cS;clear eS jS je h hp ht hk;generalize nmS r=st at cS ⊢;obtain⟨nr,gr⟩:=QG r;rw[<-gr.eq]at cD cS;have jH:std.len (Q0 r)=nr:=by show((Q0 r).length:Int)=nr;rw[Qx,gr.eq]
 generalize (QB r 0 nr).name.kind=rk at cD;generalize (QB r 0 nr).name.from_=rf at cD cS;generalize (QB r 0 nr).name.to=rt at cD cS;generalize QL (QB r 0 nr).attrs=ra at cD;generalize (QB r 0 nr).right=rr at cD;generalize (QB r 0 nr).empty=re at cD;obtain⟨ro,vr⟩:=exq (m.n.length:Int);unfold Q7e at cR ⊢;rw[<-vr]at cR ⊢;generalize (Qs m).n=l at cR cK cK2 cA ⊢;generalize t.kind=K at cR ⊢;generalize t.bom=M at cR ⊢;generalize Q0 t.r=R at cR ⊢;generalize Q9 t.off=O at cR ⊢;generalize Q11 m.d=D at cR ⊢;clear vr gr;refine fnN (Qql 9 9 0 (Q0 r) rk rf rt ra rr re st) func12 rfl fun _ _=>?_
 with_reducible refine cv2 (Q0 r) (Q1 l) ?_
 rw[<-jH]at cD
 repeat' first
  |(with_reducible apply And.intro)
  |exact fun h=>absurd (show false=true from h) (by decide)
  |exact fun h=>absurd (show true=false from h) (by decide)
  |(intro _)
 all_goals first
  |exact cK
  |exact cK2
  |exact cA
  |exact cR
  |exact cD
  |exact cS
  |exact .pure rfl (.inl rfl)
