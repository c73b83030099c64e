/- Lemmas, conditions told -/
import Derived.Test.YtibemhahkicbpaaGreatL18
set_option maxRecDepth 99999
set_option maxHeartbeats 0
set_option linter.unusedSimpArgs false
set_option linter.unusedVariables false
namespace Go.Proofs.YtibemhahkicbpaaGreat
open List(getElem?_eq_getElem mem_map getElem?_map getD_eq_getElem?_getD length_cons length_nil takeWhile_sublist length_drop map_cons mem_cons)
open Int(le_refl toNat_natCast)
open Go.RowKit Go.Lib
section
open Tryz
theorem QlC(l:List Int)(hl:l.length<=1000000000)(f:Int)(h0:0<=f)(h1:f<=l.length):BCall prog 222 [.slc 1 (Q0 l),.val (.int .i64 f)] [] (.slc 1 (Q0 (qL l f.toNat))) []:=by
 refine BCall.hand (enters_of func222 (by kernel_rfl) rfl) fun w g vs M hL=>?_
 obtain⟨v1,vs1,rfl,yC,hL⟩:=Q13 hL;obtain⟨v2,vs2,rfl,h2',hL⟩:=Q13 hL;obtain rfl:=Q2A hL;obtain⟨A,c,rfl,hr⟩:=Q4j yC M;obtain rfl:=Q31 h2';have:=QfG _ A _ c l f.toNat w hr (by omega) hl
 rw[Int.toNat_of_nonneg h0]at this;refine this.mono fun e w' ⟨b,h,vF,hb⟩=>⟨_,h,hb,?_⟩
 have hr3:Rd w' (fun b=>w.heap.size<=b/\b<w'.heap.size) 1 (some ⟨b,0,none⟩) l.length l.length (rc (qL l f.toNat)) :=
  ⟨vF.len,vF.le,vF.max,vF.nil,fun h0=>by
   obtain⟨b',o',e',hS,hc⟩:=vF.at_ h0;refine⟨b',o',e',⟨hS,?_⟩,hc⟩;have z6:(rc (qL l f.toNat)).length=l.length:=by simp[rc,qL,qTo]
   exact World.block_lt_of_cell? w' _ (hc 0 _ (getElem?_eq_getElem (by omega)))⟩
 refine Qln hr3 (fun b o hb=>.inr hb) (by rw[Qx,qL,QgV]) (fun x hx=>by obtain⟨n,_,rfl⟩:=mem_map.1 hx;rfl) (fun x hx=>by cases hx;exact⟨_,_,rfl⟩) ?_
 have e:Q0 (qL l f.toNat)=(rc (qL l f.toNat)).map .val:=by simp[Q0,rc,QgR]
 rw[e,Qai];refine⟨by simp,fun j y u hy hu=>?_⟩
 rw[getElem?_map,hy]at hu;obtain rfl:AV.val y=u:=by simpa using hu
 obtain⟨n,_,rfl⟩:=mem_map.1 (List.mem_of_getElem? hy);exact PRel.val _ rfl
def Qbx(l:List Int)(f:Nat)(a b:Int)(i:Nat):Bool:=decide (QbG l f (i-f)=0)&&(decide (rAt l i=a)||decide (rAt l i=b))
def frF(l:List Int)(f:Nat)(a b:Int)(k:Nat):Option Nat:=(List.range' k (l.length-k)).find? (Qbx l f a b)
theorem Q8e(l:List Int)(f:Nat)(a b:Int){k:Nat}(h:¬k<l.length):frF l f a b k=none:=by
 rw[frF,show l.length-k=0 by omega];rfl
theorem Q6M(l:List Int)(f:Nat)(a b:Int){k:Nat}(h:k<l.length):frF l f a b k=if Qbx l f a b k=true then some k else frF l f a b (k+1):=by
 rw[frF,show l.length-k=(l.length-(k+1))+1 by omega,List.range'_succ,List.find?_cons]
 cases Qbx l f a b k<;>rfl
def Q8C(l:List Int)(s:Bool)(k:Nat):Option Nat:=if(QN l s k).2=true\/(QN l s k).1<l.length then some (QN l s k).1 else none
def Qg3(l:List Int)(s:Bool)(q:Int)(k:Nat):Option Nat:=if(Q2p l q k).2=true then Q8C l s (Q2p l q k).1 else none
def isQ(q:Int):Prop:=q=34\/q=39
def Qbm(s:Bool):Int:=if s then 60 else 62
theorem QnR(s:Bool):Qbm s=60\/Qbm s=62:=by cases s<;>simp[Qbm]
theorem QoM(l:List Int)(f:Nat)(s:Bool):∀(n m:Nat),l.length-(f+m)<=n ->
  (qSt l f m=0->frF l f (Qbm s) 62 (f+m)=Q8C l s (f+m))/\(isQ (qSt l f m)->frF l f (Qbm s) 62 (f+m)=Qg3 l s (qSt l f m) (f+m)):=by
 intro n;induction n with
 |zero =>
  intro m h;have hk:¬f+m<l.length:=by omega
  refine⟨fun _=>?_,fun _=>?_⟩
  ·rw[Q8e l f _ _ hk,Q8C,Q2l l s _ hk,if_neg (by simp)]
  ·rw[Q8e l f _ _ hk,Qg3,Q3L l _ _ hk,if_neg (by simp)]
 |succ n ih =>
  intro m h;by_cases hk:f+m<l.length
  ·obtain⟨ih1,ih2⟩:=ih (m+1) (by omega)
   rw[<-Nat.add_assoc]at ih1 ih2;have hg:l[f+m]?.getD 0=l[f+m]:=by rw[getElem?_eq_getElem hk];rfl
   have hra:rAt l ((f+m:Nat):Int)=l[f+m]:=Qd4 hk;have hs:qSt l f (m+1)=(Q2Q (qSt l f m) l[f+m]).1:=by rw[qSt,hg]
   have ho:QbG l f (f+m-f)=(Q2Q (qSt l f m) l[f+m]).2:=by rw[QbG,show f+m-f=m by omega,hg]
   have zM:=QnR s;rw[Q6M l f _ _ hk,Qbx,ho,hra];rw[hs]at ih1 ih2;generalize hr:l[f+m]=r at *;refine⟨fun h0=>?_,fun hq=>?_⟩
   ·rw[h0]at ih1 ih2 ⊢
    by_cases kK:r=34\/r=39
    ·have e:Q2Q 0 r=(r,0):=by rw[Q2Q,if_pos ⟨rfl,kK⟩]
     rw[e]at ih1 ih2 ⊢
     have gt:¬((decide ((0:Int)=0)&&(decide (r=Qbm s)||decide (r=62)))=true):=by
      simp only[decide_true,Bool.true_and,Bool.or_eq_true,decide_eq_true_eq];omega
     rw[if_neg gt,ih2 kK];have hqq:Q3k l[f+m]=true:=by rw[hr];rcases kK with rfl|rfl<;>rfl
     rw[Q8C,Q50 l s _ hk hqq,Qg3];have hqd:Q1a l (f+m)=Q2p l r (f+m+1):=by rw[Q1a,getD_eq_getElem?_getD,getElem?_eq_getElem hk,<-hr];rfl
     rw[hqd];cases hb:(Q2p l r (f+m+1)).2 with
     |true=>rw[if_pos rfl];rfl
     |false =>
      rw[if_neg (by decide)]
      have qR:(Q2p l r (f+m+1)).1=l.length:=by
       have key:∀(n k:Nat),l.length-k<=n->(Q2p l r k).2=false->(Q2p l r k).1=l.length:=by
        intro n;induction n with
        |zero=>intro k h1 h2;rw[Q3L l r k (by omega)]
        |succ n ih3 =>
         intro k h1 h2;by_cases h3:k<l.length
         ·by_cases h4:l[k]=r
          ·rw[Q6C l r k h3 h4]at h2;cases h2
          ·rw[Q5Q l r k h3 h4]at h2 ⊢
           exact ih3 _ (by omega) h2
         ·rw[Q3L l r k h3]
       exact key _ _ (Nat.le_refl _) hb
      rw[qR,Q2l l s _ (by omega),if_neg (by simp)]
    ·have e:Q2Q 0 r=(0,0):=by rw[Q2Q,if_neg (fun h=>kK h.2),if_neg (fun h=>h.1 rfl)]
     rw[e]at ih1 ⊢
     have qT:Q3k l[f+m]=false:=by
      rw[hr];simp only[Q3k,Bool.or_eq_false_iff,beq_eq_false_iff_ne];omega
     by_cases j4:r=62
     ·subst j4
      rw[if_pos (by simp),Q8C,Q5K l s _ hk hr,if_pos (.inl rfl)]
     ·by_cases jO:r=60/\s=true
      ·obtain⟨rfl,rfl⟩:=jO
       rw[if_pos (by decide),Q8C,Q7e l _ hk hr,if_pos (.inr hk)]
      ·have gt:¬((decide ((0:Int)=0)&&(decide (r=Qbm s)||decide (r=62)))=true):=by
        simp only[decide_true,Bool.true_and,Bool.or_eq_true,decide_eq_true_eq];rintro(h|h)
        ·cases s with
         |true=>exact jO ⟨h,rfl⟩
         |false=>exact j4 h
        ·exact j4 h
       rw[if_neg gt,ih1 rfl,Q8C,Q8C,Q4k l s _ hk qT (by rw[hr];exact j4) (by rw[hr];exact jO)]
   ·generalize qSt l f m=q at *
    have vJ:q≠0:=by rcases hq with rfl|rfl<;>decide
    by_cases gF:r=q
    ·have e:Q2Q q r=(0,0):=by rw[Q2Q,if_neg (fun h=>vJ h.1),if_pos ⟨vJ,gF⟩]
     rw[e]at ih1 ⊢
     have gt:¬((decide ((0:Int)=0)&&(decide (r=Qbm s)||decide (r=62)))=true):=by
      simp only[decide_true,Bool.true_and,Bool.or_eq_true,decide_eq_true_eq];rcases hq with rfl|rfl<;>omega
     rw[if_neg gt,ih1 rfl,Qg3,Q6C l q _ hk (by rw[hr];exact gF),if_pos rfl]
    ·have e:Q2Q q r=(q,q):=by rw[Q2Q,if_neg (fun h=>vJ h.1),if_neg (fun h=>gF h.2)]
     rw[e]at ih2 ⊢
     have gt:¬((decide (q=0)&&(decide (r=Qbm s)||decide (r=62)))=true):=by
      rw[decide_eq_false vJ];simp
     rw[if_neg gt,ih2 hq,Qg3,Qg3,Q5Q l q _ hk (by rw[hr];exact gF)]
  ·refine⟨fun _=>?_,fun _=>?_⟩
   ·rw[Q8e l f _ _ hk,Q8C,Q2l l s _ hk,if_neg (by simp)]
   ·rw[Q8e l f _ _ hk,Qg3,Q3L l _ _ hk,if_neg (by simp)]
theorem QeG(l:List Int)(f:Nat)(s:Bool):frF l f (Qbm s) 62 f=Q8C l s f:=(QoM l f s l.length 0 (by omega)).1 rfl
def Q9N(l:List Int)(f:Nat)(a b:Int):Int:=match frF l f a b f with
 |none=>-1
 |some j=>(j:Int)
def Qfr(Q:List AV):Nat->List AV->List Ob->Option (AV×List Ob):=fun f args _=>match f,args with
 |222,[.slc 1 _,.val (.int .i64 _)]=>some (.slc 1 Q,[])
 |_,_=>none
theorem Qpd(l:List Int)(f:Nat){i:Int}(h0:(f:Int)<=i)(h1:i<l.length):(qL l f)[i.toNat]?.getD 0=QbG l f (i.toNat-f):=by
 rw[qL,qTo,getElem?_map,List.getElem?_range (by omega)]
 show(if f<=i.toNat/\i.toNat<l.length then _ else(0:Int))=_
 rw[if_pos ⟨by omega,by omega⟩]
theorem Qhw(l:List Int)(hl:l.length<=1000000000)(f:Int)(h0:0<=f)(h1:f<=l.length)(a b:Int):BCall prog 198 [.slc 1 (Q0 l),.val (.int .i64 f),.val (.int .i32 a),.val (.int .i32 b)] [] (.val (.int .i64 (Q9N l f.toNat a b))) []:=by
 have cQ:=QlC l hl f h0 h1;obtain⟨n,hn⟩:=QE l;have jt:=Qx l;obtain⟨fn,cO⟩:=exq f.toNat;rw[<-cO]at cQ ⊢;have hqa:∀i:Int,f<=i->i<n->(qL l fn)[i.toNat]?.getD 0=QbG l fn (i.toNat-fn):=fun i hi yt=>Qpd l fn (by omega) (by have:=hn.eq;omega)
 have hql:(qL l fn).length=l.length:=QgV l fn _;have hqx:=Qx (qL l fn);generalize qL l fn=qs at cQ hqa hql hqx;obtain⟨R,hR⟩:=exq (Q9N l fn a b:Int);rw[<-hR];rw[Q9N]at hR;have hfn1:f<=n:=by have:=hn.eq;omega
 have qD:n<=1000000000:=by have:=hn.eq;omega
 refine fnN (Qfr (Q0 qs)) func198 rfl fun _ _=>?_
 with_reducible refine cv2 (Q0 l) (Q0 qs) ?_
 refine⟨cQ,?_⟩;refine Q1h (Qfr (Q0 qs)) (Int) (fun i=>⟨[(0,.slc 1 (Q0 l)),(2,.val (.int .i32 a)),(3,.val (.int .i32 b)),(9,.slc 1 (Q0 qs)),(10,.val (.int .i64 i))],[]⟩) (fun i=>f<=i/\i<=n/\frF l fn a b i.toNat=frF l fn a b fn) (fun i=>(n-i).toNat) f ?_ ?_ ?_
 ·exact⟨le_refl _,hfn1,by rw[cO]⟩
 ·refine⟨[],_,rfl,?_⟩
  exact eq0
 ·rintro i ⟨jK,jM,vO⟩
  have jK:f<=i:=jK;have jM:i<=n:=jM;have vO:frF l fn a b i.toNat=frF l fn a b fn:=vO;rcases Int.lt_or_eq_of_le jM with jA|j6
  ·have ai:=QJ (l:=l) (i:=i) (by omega) (by have:=hn.eq;omega)
   have aq:=QJ (l:=qs) (i:=i) (by omega) (by have:=hn.eq;omega)
   have nI:=hqa i jK jA;have zj:l[i.toNat]?.getD 0=rAt l i:=rfl;have j1:i.toNat<l.length:=by have:=hn.eq;omega
   have zD:Qbx l fn a b i.toNat=(decide (qs[i.toNat]?.getD 0=0)&&(decide (l[i.toNat]?.getD 0=a)||decide (l[i.toNat]?.getD 0=b))):=by
    rw[Qbx,nI,rAt,toNat_natCast]
   by_cases cq:qs[i.toNat]?.getD 0=0
   ·by_cases ca:l[i.toNat]?.getD 0=a
    ·have vX:R=i:=by
      have hh:Qbx l fn a b i.toNat=true:=by rw[zD];rw[decide_eq_true cq,decide_eq_true ca];rfl
      rw[hR,<-vO,Q6M l fn a b (by omega),if_pos hh]
      show((i.toNat:Nat):Int)=i
      omega
     clear vO hR zD nI zj;with_reducible refine cv2 (Q0 l) (Q0 qs) ?_
     have jB:=Q15 hn;have v8:(((Q0 qs).length:Nat):Int)=n:=by have:=hn.eq;omega
     with_reducible repeat' first|refine aU (zA jB <| zA v8 <| zA ai <| zA aq <| zA jA <| zA jK <| zA h0 <| zA cq ca) ?_|refine zA ?_ ?_|intro hb
     all_goals
      with_reducible refine cv2 (Q0 l) (Q0 qs) ?_
      refine .pure rfl (.inl ?_);rw[vX]
    ·by_cases cb:l[i.toNat]?.getD 0=b
     ·have vX:R=i:=by
       have hh:Qbx l fn a b i.toNat=true:=by rw[zD];rw[decide_eq_true cq,decide_eq_true cb,decide_eq_false ca];rfl
       rw[hR,<-vO,Q6M l fn a b (by omega),if_pos hh]
       show((i.toNat:Nat):Int)=i
       omega
      clear vO hR zD nI zj;with_reducible refine cv2 (Q0 l) (Q0 qs) ?_
      have jB:=Q15 hn;have v8:(((Q0 qs).length:Nat):Int)=n:=by have:=hn.eq;omega
      with_reducible repeat' first|refine aU (zA jB <| zA v8 <| zA ai <| zA aq <| zA jA <| zA jK <| zA h0 <| zA cq <| zA ca cb) ?_|refine zA ?_ ?_|intro hb
      all_goals
       with_reducible refine cv2 (Q0 l) (Q0 qs) ?_
       refine .pure rfl (.inl ?_);rw[vX]
     ·have jI:frF l fn a b i.toNat=frF l fn a b (i+1).toNat:=by
       have hh:¬Qbx l fn a b i.toNat=true:=by rw[zD];rw[decide_eq_true cq,decide_eq_false ca,decide_eq_false cb];simp
       rw[Q6M l fn a b (by omega),if_neg hh,show(i+1).toNat=i.toNat+1 by omega]
      rw[vO]at jI;clear vO hR zD nI zj;with_reducible refine cv2 (Q0 l) (Q0 qs) ?_
      have jB:=Q15 hn;have v8:(((Q0 qs).length:Nat):Int)=n:=by have:=hn.eq;omega
      with_reducible repeat' first|refine aU (zA jB <| zA v8 <| zA ai <| zA aq <| zA jA <| zA jK <| zA h0 <| zA cq <| zA ca cb) ?_|refine zA ?_ ?_|intro hb
      all_goals
       refine⟨i+1,⟨by omega,by omega,jI.symm⟩,by omega,[],_,rfl,?_⟩
       exact eq0
   ·have jI:frF l fn a b i.toNat=frF l fn a b (i+1).toNat:=by
     have hh:¬Qbx l fn a b i.toNat=true:=by rw[zD];rw[decide_eq_false cq];simp
     rw[Q6M l fn a b (by omega),if_neg hh,show(i+1).toNat=i.toNat+1 by omega]
    rw[vO]at jI;clear vO hR zD nI zj;with_reducible refine cv2 (Q0 l) (Q0 qs) ?_
    have jB:=Q15 hn;have v8:(((Q0 qs).length:Nat):Int)=n:=by have:=hn.eq;omega
    with_reducible repeat' first|refine aU (zA jB <| zA v8 <| zA ai <| zA aq <| zA jA <| zA jK <| zA h0 cq) ?_|refine zA ?_ ?_|intro hb
    all_goals
     refine⟨i+1,⟨by omega,by omega,jI.symm⟩,by omega,[],_,rfl,?_⟩
     exact eq0
  ·have vo:frF l fn a b i.toNat=none:=Q8e l fn a b (by have:=hn.eq;omega)
   have vX:R=-1:=by rw[hR,<-vO,vo]
   rw[j6];clear vO vo;with_reducible refine cv2 (Q0 l) (Q0 qs) ?_
   have jB:=Q15 hn;with_reducible repeat' first|refine aU jB ?_|refine zA ?_ ?_|intro hb
   ·rw[if_pos trivial]
    with_reducible refine cv2 (Q0 l) (Q0 qs) ?_
    refine .pure rfl (.inl ?_);rw[vX]
theorem QhZ(l:List Int)(s:Bool):∀(n k:Nat),l.length-k<=n->((QN l s k).2=true->rAt l ((QN l s k).1:Nat)=62)/\((QN l s k).2=false->(QN l s k).1<l.length->rAt l ((QN l s k).1:Nat)=60):=by
 intro n;induction n with
 |zero =>
  intro k h;rw[Q2l l s k (by omega)]
  exact⟨fun h2=>(by cases h2),fun _ h2=>absurd h2 (Nat.lt_irrefl _)⟩
 |succ n ih =>
  intro k h;by_cases hk:k<l.length
  ·cases hq:Q3k l[k]with
   |true =>
    rw[Q50 l s k hk hq];have:=Q2C l k hk
    exact ih _ (by omega)
   |false =>
    by_cases j4:l[k]=62
    ·rw[Q5K l s k hk j4]
     exact⟨fun _=>(by rw[Qd4 hk];exact j4),fun h2=>(by cases h2)⟩
    ·by_cases jO:l[k]=60/\s=true
     ·obtain⟨jO,rfl⟩:=jO
      rw[Q7e l k hk jO];exact⟨fun h2=>(by cases h2),fun _ _=>by rw[Qd4 hk];exact jO⟩
     ·rw[Q4k l s k hk hq j4 jO]
      exact ih _ (by omega)
  ·rw[Q2l l s k hk]
   exact⟨fun h2=>(by cases h2),fun _ h2=>absurd h2 (Nat.lt_irrefl _)⟩
def Q9e(F:Int):Nat->List AV->List Ob->Option (AV×List Ob):=fun f args _=>match f,args with
 |198,[.slc 1 _,.val (.int .i64 _),.val (.int .i32 _),.val (.int .i32 _)]=>some (.val (.int .i64 F),[])
 |_,_=>none
theorem Qi7(l:List Int)(hl:l.length<=1000000000)(k:Int)(h0:0<=k)(h1:k<l.length):BCall prog 156 [.slc 1 (Q0 l),.val (.int .i64 k)] [] (Q1B ((Q1D l k.toNat).1:Nat) k ((Q1D l k.toNat).2.1:Nat) (Q1D l k.toNat).2.2) []:=by
 have cF:=Qhw l hl (k+1) (by omega) (by omega) 60 62
 have cH:=QeG l (k+1).toNat true;have xZ:=QhZ l true l.length (k+1).toNat (by omega)
 have zw:=Q38 l true l.length (k+1).toNat (by omega) (by omega)
 have jU:(k+1).toNat=k.toNat+1:=by omega
 obtain⟨n,hn⟩:=QE l;have jt:=Qx l;obtain⟨F,hF⟩:=exq (Q9N l (k+1).toNat 60 62:Int);rw[<-hF]at cF;rw[Q9N,show(60:Int)=Qbm true from rfl,cH,Q8C]at hF;rw[Q1D,<-jU];obtain⟨p,hp⟩:=exq ((QN l true (k+1).toNat).1);obtain⟨w,hw⟩:=exq ((QN l true (k+1).toNat).2);rw[<-hp,<-hw]at hF xZ zw ⊢;have ji:k<n:=by have:=hn.eq;omega
 have qD:n<=1000000000:=by have:=hn.eq;omega
 obtain⟨kd,jD⟩:=exq ((((if w=false then((8:Nat),p,false)else if l[p-1]?=some 47 then(9,p+1,true)else(8,p+1,true)):Nat×Nat×Bool).1:Nat):Int);obtain⟨tt,jG⟩:=exq ((((if w=false then((8:Nat),p,false)else if l[p-1]?=some 47 then(9,p+1,true)else(8,p+1,true)):Nat×Nat×Bool).2.1:Nat):Int);obtain⟨ww,jN⟩:=exq (((if w=false then((8:Nat),p,false)else if l[p-1]?=some 47 then(9,p+1,true)else(8,p+1,true)):Nat×Nat×Bool).2.2:Bool);rw[<-jD,<-jG,<-jN,Q1B];by_cases hc:w=true\/p<l.length
 ·rw[if_pos hc]at hF
  have hF:F=(p:Int):=hF
  have jz:p<l.length:=by
   rcases hc with h|h
   ·exact zw.2.2 h
   ·exact h
  have zY:k+1<=F:=by omega
  have nJ:F<n:=by have:=hn.eq;omega
  have af:=QJ (l:=l) (i:=F) (by omega) (by omega)
  have ap:=QJ (l:=l) (i:=F-1) (by omega) (by omega)
  have eF:rAt l F=rAt l (p:Int):=by rw[hF]
  cases cU:w with
  |false =>
   have jO:l[F.toNat]?.getD 0=60:=by show rAt l F=60;rw[eF];exact xZ.2 cU jz
   rw[cU,if_pos rfl]at jD jG jN;have jD:kd=8:=jD;have jG:tt=F:=by rw[hF];exact jG
   have jN:ww=false:=jN;clear hF xZ zw hc hp hw cU eF cH jz;refine fnN (Q9e F) func156 rfl fun _ _=>?_
   with_reducible refine cv1 (Q0 l) ?_
   have jB:=Q15 hn;with_reducible repeat' first|refine aU (zA jB <| zA af <| zA ap <| zA zY <| zA nJ jO) ?_|refine zA ?_ ?_|intro hb
   all_goals exact .pure rfl ⟨.inl (by rw[jD]),.inl rfl,.inl (by first|(rw[jG];done)|(rw[jG];exact congrArg _ (congrArg _ jB.symm))|(rw[jG];exact congrArg _ (congrArg _ jB))|(rw[jG];rfl)),.inl (by rw[jN]),trivial⟩
  |true =>
   have j4:¬l[F.toNat]?.getD 0=60:=by
    have:rAt l F=62:=by rw[eF];exact xZ.1 cU
    show ¬rAt l F=60;rw[this];decide
   have ye:(F-1).toNat=p-1:=by omega
   have hft:(F-1).toNat=F.toNat-1:=by omega
   have ap2:=ap;rw[hft]at ap2;have xg:p-1<l.length:=by omega
   rw[cU,if_neg (by decide)]at jD jG jN
   by_cases vM:l[p-1]?=some 47
   ·have hg:l[(F-1).toNat]?.getD 0=47:=by rw[ye,vM];rfl
    rw[if_pos vM]at jD jG jN;have jD:kd=9:=jD;have jG:tt=F+1:=by rw[hF];show tt=_;rw[jG];show((p+1:Nat):Int)=_;omega
    have jN:ww=true:=jN;clear hF xZ zw hc hp hw cU eF cH jz vM ye xg;refine fnN (Q9e F) func156 rfl fun _ _=>?_
    with_reducible refine cv1 (Q0 l) ?_
    have jB:=Q15 hn;have gv:=hg;rw[hft]at gv;with_reducible repeat' first|refine aU (zA jB <| zA af <| zA ap <| zA ap2 <| zA zY <| zA nJ <| zA j4 <| zA hg gv) ?_|refine zA ?_ ?_|intro hb
    all_goals exact .pure rfl ⟨.inl (by rw[jD]),.inl rfl,.inl (by first|(rw[jG];done)|(rw[jG];exact congrArg _ (congrArg _ jB.symm))|(rw[jG];exact congrArg _ (congrArg _ jB))|(rw[jG];rfl)),.inl (by rw[jN]),trivial⟩
   ·have hg:¬l[(F-1).toNat]?.getD 0=47:=by
     rw[ye,getElem?_eq_getElem xg]at *;intro h;exact vM (congrArg some h)
    rw[if_neg vM]at jD jG jN;have jD:kd=8:=jD;have jG:tt=F+1:=by rw[hF];show tt=_;rw[jG];show((p+1:Nat):Int)=_;omega
    have jN:ww=true:=jN;clear hF xZ zw hc hp hw cU eF cH jz vM ye xg;refine fnN (Q9e F) func156 rfl fun _ _=>?_
    with_reducible refine cv1 (Q0 l) ?_
    have jB:=Q15 hn;have gv:=hg;rw[hft]at gv;with_reducible repeat' first|refine aU (zA jB <| zA af <| zA ap <| zA ap2 <| zA zY <| zA nJ <| zA j4 <| zA hg gv) ?_|refine zA ?_ ?_|intro hb
    all_goals exact .pure rfl ⟨.inl (by rw[jD]),.inl rfl,.inl (by first|(rw[jG];done)|(rw[jG];exact congrArg _ (congrArg _ jB.symm))|(rw[jG];exact congrArg _ (congrArg _ jB))|(rw[jG];rfl)),.inl (by rw[jN]),trivial⟩
 ·rw[if_neg hc]at hF
  have hF:F=-1:=hF;have cU:w=false:=by cases w with|true=>exact absurd (.inl rfl) hc|false=>rfl
  have jz:p=l.length:=by have:=zw.2.1;have:¬p<l.length:=fun h=>hc (.inr h);omega
  rw[cU,if_pos rfl]at jD jG jN;have jD:kd=8:=jD;have jG:tt=n:=by rw[jG];show(p:Int)=n;have:=hn.eq;omega
  have jN:ww=false:=jN;clear xZ zw hc hp hw cU cH jz;have hFn:F<0:=by omega
  clear hF;refine fnN (Q9e F) func156 rfl fun _ _=>?_
  with_reducible refine cv1 (Q0 l) ?_
  have jB:=Q15 hn;with_reducible repeat' first|refine aU (zA jB hFn) ?_|refine zA ?_ ?_|intro hb
  all_goals exact .pure rfl ⟨.inl (by rw[jD]),.inl rfl,.inl (by first|(rw[jG];done)|(rw[jG];exact congrArg _ (congrArg _ jB.symm))|(rw[jG];exact congrArg _ (congrArg _ jB))|(rw[jG];rfl)),.inl (by rw[jN]),trivial⟩
theorem Qk2(l:List Int):∀(n k:Nat),l.length-k<=n->(QN l false k).2=false->(QN l false k).1=l.length:=by
 intro n;induction n with
 |zero=>intro k h _;rw[Q2l l false k (by omega)]
 |succ n ih =>
  intro k h h2;by_cases hk:k<l.length
  ·cases hq:Q3k l[k]with
   |true =>
    rw[Q50 l false k hk hq]at h2 ⊢;have:=Q2C l k hk
    exact ih _ (by omega) h2
   |false =>
    by_cases j4:l[k]=62
    ·rw[Q5K l false k hk j4]at h2;cases h2
    ·have jO:¬(l[k]=60/\false=true):=fun h=>by cases h.2
     rw[Q4k l false k hk hq j4 jO]at h2 ⊢;exact ih _ (by omega) h2
  ·rw[Q2l l false k hk]
def Q18(l:List Int)(k:Int):Int:=if(Q3D l k.toNat).2=true then((Q3D l k.toNat).1:Nat)else -1
def Q8b(s1 s2 w1 w2:Bool)(t1 t2 k F:Int):Nat->List AV->List Ob->Option (AV×List Ob):=fun f args _=>match f,args with
 |1000010,_=>some (.val (.bool s1),[])
 |1000021,_=>some (.val (.bool s2),[])
 |1000013,_=>some (Q1B 4 k t1 w1,[])
 |1000024,_=>some (Q1B 5 k t2 w2,[])
 |198,[.slc 1 _,.val (.int .i64 _),.val (.int .i32 _),.val (.int .i32 _)]=>some (.val (.int .i64 F),[])
 |_,_=>none
theorem Qij(l:List Int)(hl:l.length<=1000000000)(vw:I32 l)(k:Int)(h0:0<=k)(h1:k<l.length):BCall prog 194 [.slc 1 (Q0 l),.val (.int .i64 k)] [] (.val (.int .i64 (Q18 l k))) []:=by
 have c1:BCall prog 151 [.slc 1 (Q0 l),.val (.int .i64 k),.val (.string ⟨#[60,33,45,45]⟩)] [] (.val (.bool (Q6 l k.toNat [60,33,45,45]))) []:=Qc l hl vw k h0 (by omega) ⟨#[60,33,45,45]⟩ (by decide)
 have c2:BCall prog 151 [.slc 1 (Q0 l),.val (.int .i64 k),.val (.string ⟨#[60,63]⟩)] [] (.val (.bool (Q6 l k.toNat [60,63]))) []:=Qc l hl vw k h0 (by omega) ⟨#[60,63]⟩ (by decide)
 have ak:=QJ (l:=l) (i:=k) h0 h1;have yc:((k.toNat:Nat):Int)=k:=Int.toNat_of_nonneg h0;obtain⟨n,hn⟩:=QE l;have jt:=Qx l;have ji:k<n:=by have:=hn.eq;omega
 have qD:n<=1000000000:=by have:=hn.eq;omega
 obtain⟨R,hR⟩:=exq (Q18 l k:Int);rw[<-hR];rw[Q18,Q3D]at hR;cases jL:Q6 l k.toNat [60,33,45,45]with
 |true =>
  have j2:=Q17 l k.toNat _ (by omega) jL
  simp only[length_cons,length_nil]at j2;have cT:BCall prog 152 [.slc 1 (Q0 l),.val (.int .i64 4),.val (.int .i64 k),.val (.int .i64 4),.val (.string ⟨#[45,45,62]⟩)] [] (Q1B 4 k (Q3C l (k+4) [45,45,62]) (Q3F l (k+4) [45,45,62])) []:=Q8v l hl vw 4 k 4 h0 (by decide) (by omega) ⟨#[45,45,62]⟩ (by decide)
  obtain⟨_,u2,u3⟩:=Q5L l 4 k.toNat 4 [45,45,62] (by omega)
  rw[yc]at u2 u3;have u2:((Q14 l 4 k.toNat 4 [45,45,62]).2.1:Int)=Q3C l (k+4) [45,45,62]:=u2;have u3:(Q14 l 4 k.toNat 4 [45,45,62]).2.2=Q3F l (k+4) [45,45,62]:=u3;rw[if_pos jL]at hR;simp only[u2,u3]at hR;rw[jL]at c1;generalize Q3C l (k+4) [45,45,62]=t1 at cT hR;generalize Q3F l (k+4) [45,45,62]=w1 at cT hR;rw[Q1B]at cT;clear u2 u3 jL j2 c2 yc;cases w1 with
  |true =>
   have hR:R=t1:=hR;refine fnN (Q8b true true true true t1 0 k 0) func194 rfl fun _ _=>?_
   with_reducible refine cv1 (Q0 l) ?_
   repeat' first
    |(with_reducible apply And.intro)
    |exact fun h=>absurd (show false=true from h) (by decide)
    |exact fun h=>absurd (show true=false from h) (by decide)
    |(intro _)
   all_goals first
    |exact c1
    |exact c2
    |exact cT
    |exact .pure rfl (.inl (by rw[hR]))
  |false =>
   have hR:R=-1:=hR;refine fnN (Q8b true true false true t1 0 k 0) func194 rfl fun _ _=>?_
   with_reducible refine cv1 (Q0 l) ?_
   repeat' first
    |(with_reducible apply And.intro)
    |exact fun h=>absurd (show false=true from h) (by decide)
    |exact fun h=>absurd (show true=false from h) (by decide)
    |(intro _)
   all_goals first
    |exact c1
    |exact c2
    |exact cT
    |exact .pure rfl (.inl (by rw[hR]))
 |false =>
  rw[jL]at c1;rw[if_neg (show ¬Q6 l k.toNat [60,33,45,45]=true by rw[jL];decide)]at hR
  cases jT:Q6 l k.toNat [60,63]with
  |true =>
   have j2:=Q17 l k.toNat _ (by omega) jT
   simp only[length_cons,length_nil]at j2;have cT:BCall prog 152 [.slc 1 (Q0 l),.val (.int .i64 5),.val (.int .i64 k),.val (.int .i64 2),.val (.string ⟨#[63,62]⟩)] [] (Q1B 5 k (Q3C l (k+2) [63,62]) (Q3F l (k+2) [63,62])) []:=Q8v l hl vw 5 k 2 h0 (by decide) (by omega) ⟨#[63,62]⟩ (by decide)
   obtain⟨_,u2,u3⟩:=Q5L l 5 k.toNat 2 [63,62] (by omega)
   rw[yc]at u2 u3;have u2:((Q14 l 5 k.toNat 2 [63,62]).2.1:Int)=Q3C l (k+2) [63,62]:=u2;have u3:(Q14 l 5 k.toNat 2 [63,62]).2.2=Q3F l (k+2) [63,62]:=u3;rw[if_pos jT]at hR;simp only[u2,u3]at hR;rw[jT]at c2;generalize Q3C l (k+2) [63,62]=t1 at cT hR;generalize Q3F l (k+2) [63,62]=w1 at cT hR;rw[Q1B]at cT;clear u2 u3 jL jT j2 yc;cases w1 with
   |true =>
    have hR:R=t1:=hR;refine fnN (Q8b false true true true 0 t1 k 0) func194 rfl fun _ _=>?_
    with_reducible refine cv1 (Q0 l) ?_
    repeat' first
     |(with_reducible apply And.intro)
     |exact fun h=>absurd (show false=true from h) (by decide)
     |exact fun h=>absurd (show true=false from h) (by decide)
     |(intro _)
    all_goals first
     |exact c1
     |exact c2
     |exact cT
     |exact .pure rfl (.inl (by rw[hR]))
   |false =>
    have hR:R=-1:=hR;refine fnN (Q8b false true true false 0 t1 k 0) func194 rfl fun _ _=>?_
    with_reducible refine cv1 (Q0 l) ?_
    repeat' first
     |(with_reducible apply And.intro)
     |exact fun h=>absurd (show false=true from h) (by decide)
     |exact fun h=>absurd (show true=false from h) (by decide)
     |(intro _)
    all_goals first
     |exact c1
     |exact c2
     |exact cT
     |exact .pure rfl (.inl (by rw[hR]))
  |false =>
   rw[jT]at c2;rw[if_neg (show ¬Q6 l k.toNat [60,63]=true by rw[jT];decide)]at hR
   have hgk:l.getD k.toNat 0=l[k.toNat]?.getD 0:=getD_eq_getElem?_getD;rw[hgk]at hR;by_cases jO:l[k.toNat]?.getD 0=60
   ·rw[if_pos jO]at hR
    have cF:=Qhw l hl k h0 (by omega) 62 62
    have cH:=QeG l k.toNat false;have zw:=Q38 l false l.length k.toNat (by omega) (by omega)
    have yK:=Qk2 l l.length k.toNat (by omega)
    obtain⟨F,hF⟩:=exq (Q9N l k.toNat 62 62:Int);rw[<-hF]at cF;rw[Q9N,show frF l k.toNat 62 62 k.toNat=Q8C l false k.toNat from cH,Q8C]at hF;simp only at hR
    generalize (QN l false k.toNat).1=p at hF hR zw yK;generalize (QN l false k.toNat).2=w at hF hR zw yK;clear cH jL jT yc hgk;cases w with
    |true =>
     have jz:=zw.2.2 rfl;rw[if_pos (.inl rfl)]at hF;have hF:F=(p:Int):=hF;have hR:R=F+1:=by rw[hR,if_pos rfl,hF];show((min (p+1) l.length:Nat):Int)=_;omega
     have zY:0<=F:=by omega
     have nJ:F<n:=by have:=hn.eq;omega
     clear hF zw yK jz;refine fnN (Q8b false false true true 0 0 k F) func194 rfl fun _ _=>?_
     with_reducible refine cv1 (Q0 l) ?_
     have jB:=Q15 hn;with_reducible repeat' first|refine aU (zA jB <| zA ak <| zA zY <| zA nJ <| zA jO ji) ?_|refine zA ?_ ?_|intro hb
     all_goals exact .pure rfl (.inl (by rw[hR];rfl))
    |false =>
     have jz:=yK rfl;rw[if_neg (by rw[jz];simp)]at hF
     have hF:F=-1:=hF;have hR:R=-1:=hR;have zY:F<0:=by omega
     clear hF zw yK jz;refine fnN (Q8b false false true true 0 0 k F) func194 rfl fun _ _=>?_
     with_reducible refine cv1 (Q0 l) ?_
     have jB:=Q15 hn;with_reducible repeat' first|refine aU (zA jB <| zA ak <| zA zY <| zA jO ji) ?_|refine zA ?_ ?_|intro hb
     all_goals exact .pure rfl (.inl (by rw[hR]))
   ·rw[if_neg jO]at hR
    have hR:R=k+1:=by rw[hR,if_pos rfl];show((k.toNat+1:Nat):Int)=_;omega
    clear jL jT yc hgk;refine fnN (Q8b false false true true 0 0 k 0) func194 rfl fun _ _=>?_
    with_reducible refine cv1 (Q0 l) ?_
    have jB:=Q15 hn;with_reducible repeat' first|refine aU (zA jB <| zA ak <| zA jO ji) ?_|refine zA ?_ ?_|intro hb
    all_goals exact .pure rfl (.inl (by rw[hR];rfl))
def Q4z(l:List Int)(x:Bool×Int):Nat×Bool:=if x.2<0 then(l.length,false)else if x.1=true then Q2v l (Q3M l x.2.toNat true).1 (Q3M l x.2.toNat true).2 else Q2v l x.2.toNat true
theorem QaW(l:List Int)(k:Nat):Q2v l k false=(l.length,false):=Q4J l k false (fun h=>by cases h.2)
theorem QkL(l:List Int)(k:Nat):Q3M l k false=(l.length,false):=Q4I l k false (fun h=>by cases h.2)
theorem Q5r{l:List Int}{i:Int}(h0:0<=i)(h1:i<l.length):∃h:i.toNat<l.length,l[i.toNat]?.getD 0=l[i.toNat]:=⟨by omega,by rw[getElem?_eq_getElem (by omega)];rfl⟩
theorem Qd1{l:List Int}{i:Int}(h:0<=i):Q4z l (true,i)=Q2v l (Q3M l i.toNat true).1 (Q3M l i.toNat true).2:=by
 show(if i<0 then((l.length,false):Nat×Bool)else if true=true then _ else _)=_
 rw[if_neg (by omega),if_pos rfl]
theorem Q6I{l:List Int}{i:Int}(h:0<=i):Q4z l (false,i)=Q2v l i.toNat true:=by
 show(if i<0 then((l.length,false):Nat×Bool)else if false=true then _ else _)=_
 rw[if_neg (by omega),if_neg (by decide)]
theorem QiK{l:List Int}{i:Int}(h0:0<=i)(h1:i<l.length)(h:l[i.toNat]?.getD 0=93):Q4z l (true,i)=Q4z l (false,i+1):=by
 obtain⟨hl,e⟩:=Q5r h0 h1;rw[e]at h;rw[Qd1 h0,Q6I (by omega),show(i+1).toNat=i.toNat+1 by omega,Q8Z l i.toNat hl h]
theorem Qmg{l:List Int}{i:Int}(h0:0<=i)(h1:i<l.length)(h:¬l[i.toNat]?.getD 0=93):Q4z l (true,i)=Q4z l (true,Q18 l i)/\(Q18 l i=-1\/(i<Q18 l i/\Q18 l i<=l.length)):=by
 obtain⟨hl,e⟩:=Q5r h0 h1;rw[e]at h;have hr:=Q5i l i.toNat hl;rw[Qd1 h0,Q7V l i.toNat hl h,Q18];cases hd:(Q3D l i.toNat).2 with
 |true =>
  rw[if_pos rfl];refine⟨?_,.inr (by omega)⟩
  rw[Qd1 (by omega),toNat_natCast]
 |false =>
  rw[if_neg (by decide),QkL,QaW]
  exact⟨rfl,.inl rfl⟩
theorem Qml{l:List Int}{i:Int}(h0:0<=i)(h1:i<l.length)(h:l[i.toNat]?.getD 0=62):Q4z l (false,i)=((i+1).toNat,true):=by
 obtain⟨hl,e⟩:=Q5r h0 h1;rw[e]at h;rw[Q6I h0,Q8Q l i.toNat hl h,show(i+1).toNat=i.toNat+1 by omega]
theorem QmE{l:List Int}{i:Int}(h0:0<=i)(h1:i<l.length)(h:l[i.toNat]?.getD 0=91):Q4z l (false,i)=Q4z l (true,i+1):=by
 obtain⟨hl,e⟩:=Q5r h0 h1;rw[e]at h;rw[Q6I h0,Qd1 (by omega),show(i+1).toNat=i.toNat+1 by omega,Q93 l i.toNat hl h]
 rfl
theorem QdW{l:List Int}{i:Int}(h0:0<=i)(h1:i<l.length)(h:l[i.toNat]?.getD 0=34\/l[i.toNat]?.getD 0=39):Q4z l (false,i)=Q4z l (false,QC l i)/\(QC l i=-1\/(i<QC l i/\QC l i<=l.length)):=by
 obtain⟨hl,e⟩:=Q5r h0 h1;rw[e]at h;have hr:=Q2C l i.toNat hl;have hq:Q3k l[i.toNat]=true:=by rcases h with h|h<;>rw[h]<;>rfl
 rw[Q6I h0,Q8V l i.toNat hl (by omega) hq,QC]
 cases hd:(Q1a l i.toNat).2 with
 |true =>
  rw[if_pos rfl];refine⟨?_,.inr (by omega)⟩
  rw[Q6I (by omega),toNat_natCast]
 |false =>
  rw[if_neg (by decide),QaW]
  exact⟨rfl,.inl rfl⟩
theorem Qi9{l:List Int}{i:Int}(h0:0<=i)(h1:i<l.length)(j4:¬l[i.toNat]?.getD 0=62)(zH:¬l[i.toNat]?.getD 0=34)(zd:¬l[i.toNat]?.getD 0=39)(zN:¬l[i.toNat]?.getD 0=91):Q4z l (false,i)=Q4z l (false,i+1):=by
 obtain⟨hl,e⟩:=Q5r h0 h1;rw[e]at j4 zH zd zN;have hq:Q3k l[i.toNat]=false:=by simp only[Q3k,Bool.or_eq_false_iff,beq_eq_false_iff_ne];exact⟨zH,zd⟩
 rw[Q6I h0,Q6I (by omega),show(i+1).toNat=i.toNat+1 by omega,Q7X l i.toNat hl j4 hq zN]
theorem QjP{l:List Int}{x:Bool×Int}(h:x.2<0\/(l.length:Int)<=x.2):Q4z l x=(l.length,false):=by
 unfold Q4z;split
 ·rfl
 ·rename_i h2
  have h3:¬x.2.toNat<l.length:=by omega
  split
  ·rw[Q4I l _ _ (fun h=>h3 h.1),QaW]
  ·exact Q4J l _ _ (fun h=>h3 h.1)
def Q9p(wi cl:Int->Int):Nat->List AV->List Ob->Option (AV×List Ob):=fun f args _=>match f,args with
 |194,[.slc 1 _,.val (.int .i64 k)]=>some (.val (.int .i64 (wi k)),[])
 |195,[.slc 1 _,.val (.int .i64 k)]=>some (.val (.int .i64 (cl k)),[])
 |_,_=>none
theorem QfX(l:List Int)(hl:l.length<=1000000000)(vw:I32 l)(k:Int)(h0:0<=k)(h1:k+9<=l.length):BCall prog 153 [.slc 1 (Q0 l),.val (.int .i64 k)] [] (Q1B 7 k ((Q3E l k.toNat).2.1:Nat) (Q3E l k.toNat).2.2) []:=by
 obtain⟨n,hn⟩:=QE l;have cW:∀i:Int,0<=i->i<n->BCall prog 194 [.slc 1 (Q0 l),.val (.int .i64 i)] [] (.val (.int .i64 (Q18 l i))) []:=fun i i0 i1=>Qij l hl vw i i0 (by have:=hn.eq;omega)
 have cC:∀i:Int,0<=i->i<n->BCall prog 195 [.slc 1 (Q0 l),.val (.int .i64 i)] [] (.val (.int .i64 (QC l i))) []:=fun i i0 i1=>Qih l hl i i0 (by have:=hn.eq;omega)
 have jt:=Qx l
 have hd:Q3E l k.toNat=(7,(Q4z l (false,k+9)).1,(Q4z l (false,k+9)).2):=by
  rw[Q3E,Q6I (by omega),show(k+9).toNat=k.toNat+9 by omega]
 rw[hd];obtain⟨rt,yI⟩:=exq (((Q4z l (false,k+9)).1:Nat):Int);obtain⟨rb,vY⟩:=exq ((Q4z l (false,k+9)).2:Bool);show BCall _ _ _ _ (Q1B 7 k ((Q4z l (false,k+9)).1:Nat) (Q4z l (false,k+9)).2) _;rw[<-yI,<-vY,Q1B];have xp:k+9<=n:=by have:=hn.eq;omega
 have qD:n<=1000000000:=by have:=hn.eq;omega
 clear hd h1;refine fnN (Q9p (Q18 l) (QC l)) func153 rfl fun _ _=>?_
 with_reducible refine cv3 (Q0 l) (Q18 l) (QC l) ?_
 have jB:=Q15 hn;with_reducible repeat' first|refine aU (zA jB <| zA xp h0) ?_|refine zA ?_ ?_|intro hb
 refine Q1h (Q9p (Q18 l) (QC l)) (Bool×Int) (fun x=>⟨[(0,.slc 1 (Q0 l)),(1,.val (.int .i64 k)),(4,.box 0 0),(5,.val (.bool x.1)),(6,.val (.int .i64 x.2))],[.box [.val (.int .i64 0),.val (.int .i64 0),.val (.int .i64 0),.val (.bool false)]]⟩) (fun x=>(-1<=x.2/\x.2<=n)/\Q4z l x=Q4z l (false,k+9)) (fun x=>if x.2<0 then 0 else(n-x.2+1).toNat) (false,k+9) ?_ ?_ ?_
 ·exact⟨⟨by show -1<=k+9;omega,xp⟩,rfl⟩
 ·refine⟨[some 0],_,rfl,?_⟩
  exact eq0
 ·rintro⟨op,i⟩ ⟨⟨vJ,v8⟩,hi⟩
  have qF:-1<=i:=vJ;have jM:i<=n:=v8;clear vJ v8;by_cases hc:0<=i/\i<n
  ·obtain⟨hi0',jA⟩:=hc
   have jK:0<=i:=hi0';have j1:i<l.length:=by have:=hn.eq;omega
   have ai:=QJ (l:=l) (i:=i) jK j1;cases op with
   |true =>
    by_cases gw:l[i.toNat]?.getD 0=93
    ·have jI:=QiK jK j1 gw
     rw[hi]at jI;clear hi jB j1;with_reducible refine cv3 (Q0 l) (Q18 l) (QC l) ?_
     have jB:=Q15 hn;with_reducible repeat' first|refine aU (zA jB <| zA ai <| zA jA <| zA jK gw) ?_|refine zA ?_ ?_|intro hb
     all_goals
      refine⟨(false,i+1),⟨⟨by show -1<=i+1;omega,by show i+1<=n;omega⟩,jI.symm⟩,?_,[some 0],_,rfl,?_⟩
      ·show(if i+1<0 then 0 else(n-(i+1)+1).toNat)<(if i<0 then 0 else(n-i+1).toNat)
       rw[if_neg (by omega),if_neg (by omega)];omega
      exact eq0
    ·obtain⟨jI,cg⟩:=Qmg jK j1 gw
     have cWi:=cW i jK jA;have hwb:-1<=Q18 l i/\Q18 l i<=n/\(Q18 l i<0\/i<Q18 l i):=by have:=hn.eq;omega
     clear cg;rw[hi]at jI;clear hi jB j1;with_reducible refine cv3 (Q0 l) (Q18 l) (QC l) ?_
     have jB:=Q15 hn;with_reducible repeat' first|refine aU (zA jB <| zA ai <| zA jA <| zA jK gw) ?_|refine zA ?_ ?_|intro hb
     all_goals
      refine⟨(true,Q18 l i),⟨⟨by show -1<=Q18 l i;omega,by show Q18 l i<=n;omega⟩,jI.symm⟩,?_,[some 0],_,rfl,?_⟩
      ·show(if Q18 l i<0 then 0 else(n-Q18 l i+1).toNat)<(if i<0 then 0 else(n-i+1).toNat)
       rw[if_neg (show ¬i<0 by omega)]
       split<;>omega
      exact eq0
   |false =>
    by_cases j4:l[i.toNat]?.getD 0=62
    ·have jI:=Qml jK j1 j4
     rw[hi]at jI;have yb:rt=i+1:=by rw[yI,jI];show(((i+1).toNat:Nat):Int)=_;omega
     have ga:rb=true:=by rw[vY,jI]
     clear hi jB j1 jI;with_reducible refine cv3 (Q0 l) (Q18 l) (QC l) ?_
     have jB:=Q15 hn;with_reducible repeat' first|refine aU (zA jB <| zA ai <| zA jA <| zA jK j4) ?_|refine zA ?_ ?_|intro hb
     all_goals
      with_reducible refine cv3 (Q0 l) (Q18 l) (QC l) ?_
      exact .pure rfl ⟨.inl rfl,.inl rfl,.inl (by rw[yb];rfl),.inl (by rw[ga]),trivial⟩
    ·by_cases zN:l[i.toNat]?.getD 0=91
     ·have jI:=QmE jK j1 zN
      rw[hi]at jI;clear hi jB j1;with_reducible refine cv3 (Q0 l) (Q18 l) (QC l) ?_
      have jB:=Q15 hn;with_reducible repeat' first|refine aU (zA jB <| zA ai <| zA jA <| zA jK <| zA j4 zN) ?_|refine zA ?_ ?_|intro hb
      all_goals
       refine⟨(true,i+1),⟨⟨by show -1<=i+1;omega,by show i+1<=n;omega⟩,jI.symm⟩,?_,[some 0],_,rfl,?_⟩
       ·show(if i+1<0 then 0 else(n-(i+1)+1).toNat)<(if i<0 then 0 else(n-i+1).toNat)
        rw[if_neg (by omega),if_neg (by omega)];omega
       exact eq0
     ·by_cases zH:l[i.toNat]?.getD 0=34
      ·obtain⟨jI,cg⟩:=QdW jK j1 (.inl zH)
       have cCi:=cC i jK jA;have hwb:-1<=QC l i/\QC l i<=n/\(QC l i<0\/i<QC l i):=by have:=hn.eq;omega
       clear cg;rw[hi]at jI;clear hi jB j1;with_reducible refine cv3 (Q0 l) (Q18 l) (QC l) ?_
       have jB:=Q15 hn;with_reducible repeat' first|refine aU (zA jB <| zA ai <| zA jA <| zA jK <| zA j4 <| zA zN zH) ?_|refine zA ?_ ?_|intro hb
       all_goals
        refine⟨(false,QC l i),⟨⟨by show -1<=QC l i;omega,by show QC l i<=n;omega⟩,jI.symm⟩,?_,[some 0],_,rfl,?_⟩
        ·show(if QC l i<0 then 0 else(n-QC l i+1).toNat)<(if i<0 then 0 else(n-i+1).toNat)
         rw[if_neg (show ¬i<0 by omega)]
         split<;>omega
        exact eq0
      ·by_cases zd:l[i.toNat]?.getD 0=39
       ·obtain⟨jI,cg⟩:=QdW jK j1 (.inr zd)
        have cCi:=cC i jK jA;have hwb:-1<=QC l i/\QC l i<=n/\(QC l i<0\/i<QC l i):=by have:=hn.eq;omega
        clear cg;rw[hi]at jI;clear hi jB j1;with_reducible refine cv3 (Q0 l) (Q18 l) (QC l) ?_
        have jB:=Q15 hn;with_reducible repeat' first|refine aU (zA jB <| zA ai <| zA jA <| zA jK <| zA j4 <| zA zN <| zA zH zd) ?_|refine zA ?_ ?_|intro hb
        all_goals
         refine⟨(false,QC l i),⟨⟨by show -1<=QC l i;omega,by show QC l i<=n;omega⟩,jI.symm⟩,?_,[some 0],_,rfl,?_⟩
         ·show(if QC l i<0 then 0 else(n-QC l i+1).toNat)<(if i<0 then 0 else(n-i+1).toNat)
          rw[if_neg (show ¬i<0 by omega)]
          split<;>omega
         exact eq0
       ·have jI:=Qi9 jK j1 j4 zH zd zN
        rw[hi]at jI;clear hi jB j1;with_reducible refine cv3 (Q0 l) (Q18 l) (QC l) ?_
        have jB:=Q15 hn;with_reducible repeat' first|refine aU (zA jB <| zA ai <| zA jA <| zA jK <| zA j4 <| zA zN <| zA zH zd) ?_|refine zA ?_ ?_|intro hb
        all_goals
         refine⟨(false,i+1),⟨⟨by show -1<=i+1;omega,by show i+1<=n;omega⟩,jI.symm⟩,?_,[some 0],_,rfl,?_⟩
         ·show(if i+1<0 then 0 else(n-(i+1)+1).toNat)<(if i<0 then 0 else(n-i+1).toNat)
          rw[if_neg (by omega),if_neg (by omega)];omega
         exact eq0
  ·have vo:Q4z l (op,i)=(l.length,false):=QjP (by show i<0\/_<=i;have:=hn.eq;omega)
   rw[vo]at hi;have yb:rt=n:=by rw[yI,<-hi,hn.eq]
   have ga:rb=false:=by rw[vY,<-hi]
   clear hi vo jB;by_cases xh:0<=i
   ·have zi:¬i<n:=fun h=>hc ⟨xh,h⟩
    with_reducible refine cv3 (Q0 l) (Q18 l) (QC l) ?_
    have jB:=Q15 hn;with_reducible repeat' first|refine aU (zA jB <| zA zi xh) ?_|refine zA ?_ ?_|intro hb
    all_goals
     rw[if_pos trivial];with_reducible refine cv3 (Q0 l) (Q18 l) (QC l) ?_
     exact .pure rfl ⟨.inl rfl,.inl rfl,.inl (by rw[yb];exact congrArg _ (congrArg _ jB)),.inl (by rw[ga]),trivial⟩
   ·with_reducible refine cv3 (Q0 l) (Q18 l) (QC l) ?_
    have jB:=Q15 hn;with_reducible repeat' first|refine aU (zA jB xh) ?_|refine zA ?_ ?_|intro hb
    all_goals
     rw[if_pos trivial];with_reducible refine cv3 (Q0 l) (Q18 l) (QC l) ?_
     exact .pure rfl ⟨.inl rfl,.inl rfl,.inl (by rw[yb];exact congrArg _ (congrArg _ jB)),.inl (by rw[ga]),trivial⟩
def Un(l:List Int):Prop:=∀x∈l,-1<=x/\x<=1114111
theorem Un.i32{l:List Int}(h:Un l):I32 l:=fun x hx=>by have:=h x hx;omega
theorem Un.at_{l:List Int}(h:Un l)(i:Int)(h0:0<=i)(h1:i<l.length):-1<=l[i.toNat]?.getD 0/\l[i.toNat]?.getD 0<=1114111:=by
 rw[getElem?_eq_getElem (by omega)]
 exact h _ (List.getElem_mem _)
def Q5c(l:List Int)(k:Nat):Nat×Nat×Bool:=if Q1y l (k+1) (Qj l (k+1))=true then(2,k+2+Qj l (k+1),true)else(11,k+1,false)
theorem Qe0{l:List Int}{k:Nat}(h:Q6 l k [38,35,120]=true):Q6 l k [38,35]=true:=by
 unfold Q6 at h ⊢;rw[Bool.and_eq_true,beq_iff_eq]at h;rw[Bool.and_eq_true,beq_iff_eq];refine⟨by decide,?_⟩
 have h2:=congrArg (List.take 2) h.2;rw[List.take_take]at h2;exact h2
theorem Q7b{l:List Int}{k:Nat}{bs:List UInt8}(h:Q6 l k bs=true){i:Nat}(hi:i<bs.length):l[k+i]?=some ((bs[i].toNat:Nat):Int):=by
 unfold Q6 at h;rw[Bool.and_eq_true,beq_iff_eq]at h;have h2:=congrArg (fun z=>z[i]?) h.2
 simp only[List.getElem?_take,List.getElem?_drop,if_pos hi]at h2;rw[h2,bi,getElem?_map,getElem?_eq_getElem hi];rfl
theorem Qo9{l:List Int}{k:Nat}(h:Q6 l k [38,35]=false):Q1n l k=Q5c l k:=by
 have h2:Q6 l k [38,35,120]=false:=by
  cases h3:Q6 l k [38,35,120]with
  |false=>rfl
  |true=>rw[Qe0 h3]at h;cases h
 rw[Q1n,h,h2];rfl
theorem Qpb{l:List Int}{k:Nat}(h:Q6 l k [38,35,120]=true):Q1n l k=if Q1y l (k+3) (Q62 l k)=true then(3,k+4+Q62 l k,true)else Q5c l k:=by
 have h3:l[k+2]?=some 120:=Q7b h (i:=2) (by decide)
 have hd:Q5o l k=0:=by
  obtain⟨hl,e⟩:=List.getElem?_eq_some_iff.1 h3;rw[Q5o,List.drop_eq_getElem_cons hl,e];rfl
 rw[Q1n,h,hd];cases Q1y l (k+3) (Q62 l k)with
 |true=>rfl
 |false =>
  rw[show Q1y l (k+2) 0=false from rfl];simp only[Bool.and_false,Bool.false_eq_true,if_false];rfl
theorem Qpr{l:List Int}{k:Nat}(h1:Q6 l k [38,35]=true)(h2:Q6 l k [38,35,120]=false):Q1n l k=if Q1y l (k+2) (Q5o l k)=true then(3,k+3+Q5o l k,true)else Q5c l k:=by
 rw[Q1n,h1,h2];cases Q1y l (k+2) (Q5o l k)<;>rfl
theorem QY{l:List Int}{p:Nat}{m:Nat}:Q1y l p m=true↔0<m/\p+m<l.length/\l[p+m]?.getD 0=59:=by
 unfold Q1y;rw[Bool.and_eq_true,decide_eq_true_eq,beq_iff_eq];constructor
 ·rintro⟨h1,h2⟩
  have h3:=List.getElem?_eq_some_iff.1 h2;exact⟨h1,h3.1,by rw[h2];rfl⟩
 ·rintro⟨h1,h2,h3⟩
  rw[getElem?_eq_getElem h2]at h3 ⊢;exact⟨h1,congrArg some h3⟩
def QcH(base:Int)(r:Int):Bool:=decide (0<=Q1t r base)
theorem QbP(r:Int):Q6n r=true↔48<=r/\r<=57:=by
 unfold Q6n Q5u;split
 ·simp only[Bool.false_eq_true,false_iff];omega
 ·simp only[true_iff];omega
theorem Qia(r:Int):Q7w r=true↔(97<=r/\r<=102)\/(65<=r/\r<=70)\/(48<=r/\r<=57):=by
 unfold Q7w QaY;split
 ·simp only[true_iff];omega
 ·split
  ·simp only[true_iff];omega
  ·have:=QbP r
   unfold Q6n at this;rw[this];omega
theorem Qhz(r:Int):QlR (isF r 48 57) (isF r 97 102) (isF r 65 70) r=if 65<=r/\r<=70 then r-55 else if 97<=r/\r<=102 then r-87 else if 48<=r/\r<=57 then r-48 else -1:=by
 unfold QlR;simp only[Qjy]
theorem Qn5(r:Int):QcH 10 r=Q6n r:=by
 rw[Bool.eq_iff_iff,QbP,QcH,decide_eq_true_eq,Q1t,Qhz];generalize hv:(if 65<=r/\r<=70 then r-55 else if 97<=r/\r<=102 then r-87 else if 48<=r/\r<=57 then r-48 else -1)=v;split at hv
 ·split<;>omega
 ·split at hv
  ·split<;>omega
  ·split at hv<;>(split<;>omega)
theorem Qm6(r:Int):QcH 16 r=Q7w r:=by
 rw[Bool.eq_iff_iff,Qia,QcH,decide_eq_true_eq,Q1t,Qhz];generalize hv:(if 65<=r/\r<=70 then r-55 else if 97<=r/\r<=102 then r-87 else if 48<=r/\r<=57 then r-48 else -1)=v;split at hv
 ·split<;>omega
 ·split at hv
  ·split<;>omega
  ·split at hv<;>(split<;>omega)
def Q27(l:List Int)(base a:Int):Nat:=((l.drop a.toNat).takeWhile (QcH base)).length
theorem Q6T{l:List Int}{base i:Int}(h0:0<=i)(h1:i<l.length)(h:0<=Q1t (l[i.toNat]?.getD 0) base):Q27 l base i=Q27 l base (i+1)+1:=by
 obtain⟨hl,e⟩:=Q5r h0 h1;rw[e]at h;rw[Q27,Q27,List.drop_eq_getElem_cons hl,List.takeWhile_cons,if_pos (by rw[QcH];exact decide_eq_true h),length_cons,show(i+1).toNat=i.toNat+1 by omega]
theorem Q3H{l:List Int}{base i:Int}(h0:0<=i)(h:i<l.length->¬0<=Q1t (l[i.toNat]?.getD 0) base):Q27 l base i=0:=by
 by_cases h1:i<l.length
 ·obtain⟨hl,e⟩:=Q5r h0 h1
  have h:=h h1;rw[e]at h;rw[Q27,List.drop_eq_getElem_cons hl,List.takeWhile_cons,if_neg (by rw[QcH];simpa using h)];rfl
 ·rw[Q27,List.drop_of_length_le (by omega)];rfl
theorem QmJ(l:List Int)(k:Nat):Q27 l 10 ((k:Int)+2)=Q5o l k:=by
 rw[Q27,Q5o,show((k:Int)+2).toNat=k+2 by omega,show QcH 10=Q6n from funext Qn5]
theorem QmA(l:List Int)(k:Nat):Q27 l 16 ((k:Int)+3)=Q62 l k:=by
 rw[Q27,Q62,show((k:Int)+3).toNat=k+3 by omega,show QcH 16=Q7w from funext Qm6]
theorem Q9E{l:List Int}{k:Nat}(h1:Q6 l k [38,35]=true)(base a:Int)(hb:(Q6 l k [38,35,120]=true/\base=16/\a=(k:Int)+3)\/(Q6 l k [38,35,120]=false/\base=10/\a=(k:Int)+2)) :
  Q1n l k=if Q1y l a.toNat (Q27 l base a)=true then(3,a.toNat+Q27 l base a+1,true)else Q5c l k:=by
 rcases hb with ⟨h2,rfl,rfl⟩|⟨h2,rfl,rfl⟩
 ·rw[Qpb h2,QmA,show((k:Int)+3).toNat=k+3 by omega,show k+3+Q62 l k+1=k+4+Q62 l k by omega]
 ·rw[Qpr h1 h2,QmJ,show((k:Int)+2).toNat=k+2 by omega,show k+2+Q5o l k+1=k+3+Q5o l k by omega]
def Q3j(s1 s2:Bool)(dg:Int->Int->Int)(m:Int):Nat->List AV->List Ob->Option (AV×List Ob):=fun f args _=>match f,args with
 |1000011,_=>some (.val (.bool s1),[])
 |1000016,_=>some (.val (.bool s2),[])
 |199,[.val (.int .i32 r),.val (.int .i64 b)]=>some (.val (.int .i64 (dg r b)),[])
 |188,[.slc 1 _,.val (.int .i64 _)]=>some (.val (.int .i64 m),[])
 |_,_=>none
theorem Q3P{l:List Int}{k m:Int}(h0:0<=k)(hm:m=(Qj l (k.toNat+1):Nat))(h1:0<m)(h2:k+1+m<l.length)(h3:l[(k+1+m).toNat]?.getD 0=59):Q5c l k.toNat=(2,(k+m+2).toNat,true):=by
 rw[Q5c,if_pos (QY.2 ⟨by omega,by omega,by rw[<-h3];congr 2;omega⟩)]
 congr 2
 omega
theorem Q2o{l:List Int}{k m:Int}(h0:0<=k)(hm:m=(Qj l (k.toNat+1):Nat))(h:¬(0<m/\k+1+m<l.length/\l[(k+1+m).toNat]?.getD 0=59)):Q5c l k.toNat=(11,(k+1).toNat,false):=by
 rw[Q5c,if_neg (fun he=>h ?_),show(k+1).toNat=k.toNat+1 by omega]
 obtain⟨e1,e2,e3⟩:=QY.1 he;exact⟨by omega,by omega,by rw[<-e3];congr 2;omega⟩
theorem QmU(l:List Int)(hl:l.length<=1000000000)(hu:Un l)(k:Int)(h0:0<=k)(h1:k<l.length)(jL:Q6 l k.toNat [38,35]=false):BCall prog 157 [.slc 1 (Q0 l),.val (.int .i64 k)] [] (Q1B ((Q1n l k.toNat).1:Nat) k ((Q1n l k.toNat).2.1:Nat) (Q1n l k.toNat).2.2) []:=by
 have c1:BCall prog 151 [.slc 1 (Q0 l),.val (.int .i64 k),.val (.string ⟨#[38,35]⟩)] [] (.val (.bool (Q6 l k.toNat [38,35]))) []:=Qc l hl hu.i32 k h0 (by omega) ⟨#[38,35]⟩ (by decide)
 have c2:BCall prog 151 [.slc 1 (Q0 l),.val (.int .i64 k),.val (.string ⟨#[38,35,120]⟩)] [] (.val (.bool (Q6 l k.toNat [38,35,120]))) []:=Qc l hl hu.i32 k h0 (by omega) ⟨#[38,35,120]⟩ (by decide)
 have cL:=Q4G l hl (k+1) (by omega) (by omega)
 rw[show(k+1).toNat=k.toNat+1 by omega]at cL
 have jJ:Qj l (k.toNat+1)<=l.length:=by
  unfold Qj;split
  ·omega
  ·split
   ·have:=(takeWhile_sublist Qq (l:=l.drop (k.toNat+1))).length_le
    rw[length_drop]at this;omega
   ·omega
 obtain⟨n,hn⟩:=QE l;have jt:=Qx l;have ji:k<n:=by have:=hn.eq;omega
 have qD:n<=1000000000:=by have:=hn.eq;omega
 obtain⟨m,v9⟩:=exq ((Qj l (k.toNat+1):Nat):Int);have qA:0<=m:=by omega
 have vH:m<=n:=by have:=hn.eq;omega
 rw[<-v9]at cL;have hD:∀i:Int,0<=i->i<n->∀base,BCall prog 199 [.val (.int .i32 (l[i.toNat]?.getD 0)),.val (.int .i64 base)] [] (.val (.int .i64 (Q1t (l[i.toNat]?.getD 0) base))) []:=fun i i0 i1 base=>Q4Y _ base (hu.at_ i i0 (by have:=hn.eq;omega))
 obtain⟨kd,jD⟩:=exq (((Q1n l k.toNat).1:Nat):Int);obtain⟨tt,jG⟩:=exq (((Q1n l k.toNat).2.1:Nat):Int);obtain⟨ww,jN⟩:=exq ((Q1n l k.toNat).2.2:Bool);rw[<-jD,<-jG,<-jN,Q1B];clear jJ;have jY:=Qo9 jL;rw[jL]at c1;clear jL c2 hD;by_cases cJ:0<m
 ·by_cases vn:k+1+m<n
  ·have h2l:k+1+m<l.length:=by have:=hn.eq;omega
   have am:=QJ (l:=l) (i:=k+1+m) (by omega) h2l
   by_cases h59:l[(k+1+m).toNat]?.getD 0=59
   ·have h9:=h2l
    have hT:=Q3P h0 v9 cJ h2l h59;rw[jY,hT]at jD jG jN;have jD:kd=2:=jD;have jG:tt=k+m+2:=by rw[jG];show(((k+m+2).toNat:Nat):Int)=_;omega
    have jN:ww=true:=jN;clear hT jY v9;refine fnN (Q3j false false Q1t m) func157 rfl fun _ _=>?_
    with_reducible refine cv2 (Q0 l) Q1t ?_
    have jB:=Q15 hn;with_reducible repeat' first|refine aU (zA jB <| zA cJ <| zA vn <| zA am <| zA h59 <| zA h0 ji) ?_|refine zA ?_ ?_|intro hb
    all_goals exact .pure rfl ⟨.inl (by rw[jD]),.inl rfl,.inl (by first|(rw[jG];done)|(rw[jG];rfl)),.inl (by rw[jN]),trivial⟩
   ·have h9:=h2l
    have hT:=Q2o h0 v9 (fun h=>h59 h.2.2)
    rw[jY,hT]at jD jG jN;have jD:kd=11:=jD;have jG:tt=k+1:=by rw[jG];show(((k+1).toNat:Nat):Int)=_;omega
    have jN:ww=false:=jN;clear hT jY v9;refine fnN (Q3j false false Q1t m) func157 rfl fun _ _=>?_
    with_reducible refine cv2 (Q0 l) Q1t ?_
    have jB:=Q15 hn;with_reducible repeat' first|refine aU (zA jB <| zA cJ <| zA vn <| zA am <| zA h59 <| zA h0 ji) ?_|refine zA ?_ ?_|intro hb
    all_goals exact .pure rfl ⟨.inl (by rw[jD]),.inl rfl,.inl (by first|(rw[jG];done)|(rw[jG];rfl)),.inl (by rw[jN]),trivial⟩
  ·have h9:=cJ
   have hT:=Q2o h0 v9 (fun h=>vn (by have:=hn.eq;have:=h.2.1;omega))
   rw[jY,hT]at jD jG jN;have jD:kd=11:=jD;have jG:tt=k+1:=by rw[jG];show(((k+1).toNat:Nat):Int)=_;omega
   have jN:ww=false:=jN;clear hT jY v9;refine fnN (Q3j false false Q1t m) func157 rfl fun _ _=>?_
   with_reducible refine cv2 (Q0 l) Q1t ?_
   have jB:=Q15 hn;with_reducible repeat' first|refine aU (zA jB <| zA cJ <| zA vn <| zA h0 ji) ?_|refine zA ?_ ?_|intro hb
   all_goals exact .pure rfl ⟨.inl (by rw[jD]),.inl rfl,.inl (by first|(rw[jG];done)|(rw[jG];rfl)),.inl (by rw[jN]),trivial⟩
 ·have h9:=h0
  have hT:=Q2o h0 v9 (fun h=>cJ h.1)
  rw[jY,hT]at jD jG jN;have jD:kd=11:=jD;have jG:tt=k+1:=by rw[jG];show(((k+1).toNat:Nat):Int)=_;omega
  have jN:ww=false:=jN;clear hT jY v9;refine fnN (Q3j false false Q1t m) func157 rfl fun _ _=>?_
  with_reducible refine cv2 (Q0 l) Q1t ?_
  have jB:=Q15 hn;with_reducible repeat' first|refine aU (zA jB <| zA cJ <| zA h0 ji) ?_|refine zA ?_ ?_|intro hb
  all_goals exact .pure rfl ⟨.inl (by rw[jD]),.inl rfl,.inl (by first|(rw[jG];done)|(rw[jG];rfl)),.inl (by rw[jN]),trivial⟩
end
theorem QiH(x:Int)(h:0<Qr x):Q10 [x]=encodeRune x:=by
 have e:Q10 [x]=Q2I x:=by simp[Q10]
 rw[e,Q2I,if_neg (by omega)]
def ofI:Int->List Int->List Itm
 |_,[]=>[]
 |a,x::r=>⟨x,a,(Q10 [x]).length⟩::ofI (a+(Q10 [x]).length) r
theorem Q6J(x:Int)(r:List Int):Q10 (x::r)=Q10 [x]++Q10 r:=by
 simp[Q10]
theorem Ql6:∀(l:List Int)(a:Int),(ofI a l).map Itm.r=l
 | [],_=>rfl
 |x::r,a=>by simp only[ofI,map_cons,Ql6]
theorem Q9Z:∀(l:List Int)(a:Nat),(∀x∈l,0<Qr x)->(Q1u (Q10 l).length a (Q10 l)).map Qb7=ofI a l
 | [],a,_=>by simp[Q10,Q2y,ofI]
 |x::r,a,h=>by
  have hx:=h x (List.mem_cons_self ..);have e1:=QiH x hx;have hw:=Q47 x hx
  have jQ:Q10 (x::r)≠[]:=fun h=>by
   have:=congrArg List.length h
   rw[Q6J,List.length_append,e1,hw]at this;simp at this;omega
  have hf:=Q49 x hx (Q10 r);rw[<-e1,<-Q6J]at hf;rw[Q5W a _ jQ,hf];simp only[map_cons,ofI]
  have ed:(Q10 (x::r)).drop (Qr x)=Q10 r:=by
   rw[Q6J,e1,<-hw,List.drop_left]
  rw[ed,Q9Z r (a+Qr x) fun y hy=>h y (List.mem_cons_of_mem _ hy),e1,hw]
  rfl
theorem QbS{r:Int}(h:Qq r=true):0<Qr r:=by
 rcases(by simpa[Qq]using h:Qp r=true\/Q7Z r moreSp=true)with h|h
 ·exact QaM h
 ·have key:∀x∈moreSp,0<=x.1/\x.2<=1114111/\(x.2<55296\/57343<x.1):=by decide
  obtain⟨x,hx,hr⟩:=List.any_eq_true.1 (show moreSp.any (fun x=>decide (x.1<=r)&&decide (r<=x.2))=true from h)
  have hk:=key x hx;simp only[Bool.and_eq_true,decide_eq_true_eq]at hr;unfold Qr;repeat' split
  all_goals omega
theorem QaA(x:List Int):∀r∈x.take (Qj x 0),Qq r=true:=fun r hr=>by
 cases x with
 |nil=>simp at hr
 |cons a t =>
  have e:Qj (a::t) 0=if Qp a then((a::t).takeWhile Qq).length else 0:=rfl;rw[e]at hr;split at hr
  ·have e2:(a::t).take ((a::t).takeWhile Qq).length=(a::t).takeWhile Qq:=by
    have:=List.takeWhile_append_dropWhile (p:=Qq) (l:=a::t)
    conv=>lhs;arg 2;rw[<-this]
    rw[List.take_left]
   rw[e2]at hr;exact List.all_eq_true.1 (List.all_takeWhile (p:=Qq) (l:=a::t)) r hr
  ·simp at hr
theorem QfF(t:Txt){f u:Int}(h0:0<=f)(h1:f<=u)(h2:u<=t.r.length):∀r∈Qs t f u,Qq r=true:=by
 obtain⟨s,hs⟩:=exq ((t.r.drop f.toNat).take (u-f).toNat);have nK:=Qg4 t h0 h1 h2;rw[<-hs]at nK;rw[<-nK]
 have e1:QS s 0 s.length=QB 0 true s:=by
  unfold QS;rw[toNat_natCast,List.take_length];rfl
 have en:Qhk s=(s.drop (Q1l (QB 0 true s)).name.from_.toNat).take ((Q1l (QB 0 true s)).name.to-(Q1l (QB 0 true s)).name.from_).toNat:=by
  have e2:QD s 0 s.length=Q1l (QB 0 true s):=by rw[QD,e1]
  show(s.drop (QD s 0 s.length).name.from_.toNat).take ((QD s 0 s.length).name.to-(QD s 0 s.length).name.from_).toNat=_
  rw[e2]
 rw[Qa9]at en;split at en
 ·rename_i ht
  have yb:=(Q29 (Nat.zero_le _)).1 ht;have hl:2<=(QB 0 true s).length:=by simpa using yb.1
  have jn:((QB 0 true s)[1]?.getD Qm).kind=2:=yb.2 1 (by decide)
  have q8:s≠[]:=by
   intro h;rw[h,QB,dif_pos rfl]at hl;simp at hl
  have js:=Q3n s true q8;rw[Q2f q8]at hl jn en;obtain⟨x,hx⟩:=exq (s.drop (Qt s true).2.toNat);rw[<-hx]at hl jn en
  have yf:x≠[]:=by
   intro h;rw[h,QB,dif_pos rfl]at hl;simp at hl
  have vI:=Q3n x false yf;rw[Q2f yf]at jn en;have jn:(Qt x false).1=2:=jn;have en:Qhk s=(s.drop (0+(Qt s true).2).toNat).take ((0+(Qt s true).2+(Qt x false).2)-(0+(Qt s true).2)).toNat:=en;rw[show(0+(Qt s true).2).toNat=(Qt s true).2.toNat by omega,<-hx,show((0+(Qt s true).2+(Qt x false).2)-(0+(Qt s true).2)).toNat=(Qt x false).2.toNat by omega]at en
  have jF:(Qt x false).2=(Qj x 0:Int):=by
   unfold Qt at jn ⊢;rw[if_neg (by simp),if_neg (by simp)]at jn ⊢
   split at jn
   ·simp at jn
   ·rename_i h3
    rw[if_neg h3];split at jn
    ·rename_i h;rw[if_pos h]
    ·split at jn
     ·simp at jn
     ·split at jn
      ·simp at jn
      ·split at jn<;>simp at jn
  rw[en,jF,toNat_natCast];exact QaA x
 ·rw[en]
  intro r hr;simp[Qm]at hr
theorem Qcf(t:Txt){f u:Int}(h0:0<=f)(h1:f<=u)(h2:u<=t.r.length):∀r∈Qs t f u,0<Qr r:=fun r hr=>QbS (QfF t h0 h1 h2 r hr)
theorem Qat{l:List Int}(h:∀x∈l,0<Qr x):(runesBytes l).data.toList=Q10 l:=by
 rw[Q5l,Q10];refine congrArg List.flatten (List.map_congr_left fun x hx=>?_)
 have hx:=h x hx;rw[Qcy x hx,Q2I,if_neg (by omega)]
theorem QfS{l l':List Int}(h:∀x∈l,0<Qr x)(h':∀x∈l',0<Qr x)(e:Q10 l=Q10 l'):l=l':=by
 have h1:=Q9Z l 0 h;have h2:=Q9Z l' 0 h';rw[e]at h1;have:=congrArg (List.map Itm.r) (h1.symm.trans h2)
 rwa [Ql6,Ql6]at this
theorem QlG{l l':List Int}(h:∀x∈l,0<Qr x)(h':∀x∈l',0<Qr x):std.eqS (runesBytes l) (runesBytes l')=decide (l=l'):=by
 show((runesBytes l).toList == (runesBytes l').toList)=_
 rw[ByteArray.toList_eq,ByteArray.toList_eq,Qat h,Qat h',Bool.eq_iff_iff,beq_iff_eq,decide_eq_true_iff];exact⟨QfS h h',fun e=>by rw[e]⟩
theorem Qn1{l:List Int}(h:∀x∈l,0<Qr x):std.eqS (runesBytes l) ⟨#[]⟩=decide (l=[]):=by
 have e:(runesBytes []).data.toList=[]:=by rw[Q5l];rfl
 have:=QlG h (l':=[]) (fun x hx=>by cases hx)
 rw[<-this];show((runesBytes l).toList == _)=((runesBytes l).toList == _)
 rw[ByteArray.toList_eq (bs:=runesBytes []),e,ByteArray.toList_eq (bs:=⟨#[]⟩)]
theorem Qkv(big:Bool)(l:List UInt8):-1<=(Q1j big l).1/\(Q1j big l).1<=1114111:=by
 match l with
 | []=>exact⟨by show(-1:Int)<=-1;decide,by show(-1:Int)<=1114111;decide⟩
 | [_]=>exact⟨by show(-1:Int)<=-1;decide,by show(-1:Int)<=1114111;decide⟩
 | [x,y] =>
  have h1:=Q33 big x y;simp only[Q1j];split<;>simp only<;>omega
 | [x,y,z] =>
  have h1:=Q33 big x y;simp only[Q1j];split<;>simp only<;>omega
 |x::y::x2::y2::r =>
  have h1:=Q33 big x y;have h2:=Q33 big x2 y2;simp only[Q1j];split
  ·simp only;omega
  ·split<;>simp only<;>omega
theorem QcS(big:Bool):∀(n:Nat)(off:Int)(l:List UInt8),l.length<=n->∀x∈Q1x big off l,-1<=x.r/\x.r<=1114111
 |0,off,l,h=>fun x hx=>by
  have:l=[]:=List.eq_nil_of_length_eq_zero (by omega)
  subst this;rw[Q1x,dif_pos rfl]at hx;cases hx
 |n+1,off,l,h=>fun x hx=>by
  by_cases hl:l=[]
  ·subst hl
   rw[Q1x,dif_pos rfl]at hx;cases hx
  ·have hs:=Q6Z big l hl
   rw[Q1x,dif_neg hl]at hx;rcases mem_cons.1 hx with rfl|hx
   ·exact Qkv big l
   ·exact QcS big n _ _ (by rw[length_drop];omega) x hx
theorem Qev:∀(n off:Nat)(l:List UInt8),∀x∈(Q1u n off l).map Qb7,-1<=x.r/\x.r<=1114111
 |0,_,_=>fun x hx=>by cases hx
 |_+1,_,[]=>fun x hx=>by cases hx
 |n+1,off,b::t=>fun x hx=>by
  rcases mem_cons.1 (show x∈_::(Q1u n _ _).map Qb7 from hx)with rfl|hx
  ·exact Q4D (b::t)
  ·exact Qev n _ _ x hx
theorem QgK(b:List UInt8):Un (Qb b).r:=fun r hr=>by
 obtain⟨x,hx,rfl⟩:=mem_map.1 (show r∈(Q2V b).map Itm.r from hr);rw[Q2V]at hx;rcases Q54 b with h|h|h
 ·rw[Q4B,if_pos h]at hx;exact Qev _ _ _ x hx
 ·rw[Q4B,if_neg (by omega),if_pos h]at hx;exact QcS true _ _ _ (Nat.le_refl _) x hx
 ·rw[Q4B,if_neg (by omega),if_neg (by omega),if_pos h]at hx;exact QcS false _ _ _ (Nat.le_refl _) x hx
section
open Tryz
theorem Qng(l:List Int)(hl:l.length<=1000000000)(hu:Un l)(k:Int)(h0:0<=k)(h1:k<l.length)(jL:Q6 l k.toNat [38,35]=true)(jT:Q6 l k.toNat [38,35,120]=true)(vS:k+1+((Qj l (k.toNat+1):Nat):Int)<l.length):BCall prog 157 [.slc 1 (Q0 l),.val (.int .i64 k)] [] (Q1B ((Q1n l k.toNat).1:Nat) k ((Q1n l k.toNat).2.1:Nat) (Q1n l k.toNat).2.2) []:=by
 have c1:BCall prog 151 [.slc 1 (Q0 l),.val (.int .i64 k),.val (.string ⟨#[38,35]⟩)] [] (.val (.bool (Q6 l k.toNat [38,35]))) []:=Qc l hl hu.i32 k h0 (by omega) ⟨#[38,35]⟩ (by decide)
 have c2:BCall prog 151 [.slc 1 (Q0 l),.val (.int .i64 k),.val (.string ⟨#[38,35,120]⟩)] [] (.val (.bool (Q6 l k.toNat [38,35,120]))) []:=Qc l hl hu.i32 k h0 (by omega) ⟨#[38,35,120]⟩ (by decide)
 have cL:=Q4G l hl (k+1) (by omega) (by omega)
 rw[show(k+1).toNat=k.toNat+1 by omega]at cL
 have jJ:Qj l (k.toNat+1)<=l.length:=by
  unfold Qj;split
  ·omega
  ·split
   ·have:=(takeWhile_sublist Qq (l:=l.drop (k.toNat+1))).length_le
    rw[length_drop]at this;omega
   ·omega
 obtain⟨n,hn⟩:=QE l;have jt:=Qx l;have ji:k<n:=by have:=hn.eq;omega
 have qD:n<=1000000000:=by have:=hn.eq;omega
 obtain⟨m,v9⟩:=exq ((Qj l (k.toNat+1):Nat):Int);have qA:0<=m:=by omega
 have vH:m<=n:=by have:=hn.eq;omega
 rw[<-v9]at cL vS;have hD:∀i:Int,0<=i->i<n->∀base,BCall prog 199 [.val (.int .i32 (l[i.toNat]?.getD 0)),.val (.int .i64 base)] [] (.val (.int .i64 (Q1t (l[i.toNat]?.getD 0) base))) []:=fun i i0 i1 base=>Q4Y _ base (hu.at_ i i0 (by have:=hn.eq;omega))
 obtain⟨kd,jD⟩:=exq (((Q1n l k.toNat).1:Nat):Int);obtain⟨tt,jG⟩:=exq (((Q1n l k.toNat).2.1:Nat):Int);obtain⟨ww,jN⟩:=exq ((Q1n l k.toNat).2.2:Bool);rw[<-jD,<-jG,<-jN,Q1B];clear jJ;have j2:=Q17 l k.toNat _ (by omega) jT
 simp only[length_cons,length_nil]at j2;obtain⟨a,ha⟩:=exq (k+3:Int);have cO:a<=n:=by have:=hn.eq;omega
 have vC:=Q9E jL 16 a (.inl ⟨jT,rfl,by omega⟩)
 rw[jL]at c1;rw[jT]at c2;obtain⟨N,hN⟩:∃N:Int,IsN (Q27 l 16 a) N:=⟨_,rfl⟩;have hN0:0<=N:=by have:=hN.eq;omega
 have gd:IsN (Qj l (k.toNat+1)) m:=v9;have pv:k<a:=by omega
 have vn:k+1+m<n:=by have:=hn.eq;omega
 have am:=QJ (l:=l) (i:=k+1+m) (by omega) vS
 clear jL jT j2 v9 vS;refine fnN (Q3j true true Q1t m) func157 rfl fun _ _=>?_
 with_reducible refine cv2 (Q0 l) Q1t ?_
 have jB:=Q15 hn;with_reducible repeat' first|refine aU (zA jB <| zA h0 ji) ?_|refine zA ?_ ?_|intro hb
 refine Q1h (Q3j true true Q1t m) (Int) (fun i=>⟨[(0,.slc 1 (Q0 l)),(1,.val (.int .i64 k)),(4,.box 0 0),(5,.val (.int .i64 16)),(6,.val (.int .i64 a)),(7,.val (.int .i64 i))],[.box [.val (.int .i64 0),.val (.int .i64 0),.val (.int .i64 0),.val (.bool false)]]⟩) (fun i=>(a<=i/\i<=n)/\i+(Q27 l 16 i:Nat)=a+N) (fun i=>(n-i).toNat) a ?_ ?_ ?_
 ·exact⟨⟨le_refl _,cO⟩,by rw[hN.eq]⟩
 ·have yN:std.add k 3=a:=ha.symm
  refine⟨[some 0],_,rfl,?_⟩;exact eq1 yN
 ·rintro i ⟨⟨vJ,v8⟩,hi⟩
  have jK:a<=i:=vJ;have jM:i<=n:=v8;have hi:i+(Q27 l 16 i:Nat)=a+N:=hi;clear vJ v8 jB ha;by_cases jA:i<n
  ·have j1:i<l.length:=by have:=hn.eq;omega
   have ai:=QJ (l:=l) (i:=i) (by omega) j1
   have cDi:=hD i (by omega) jA 16
   by_cases hd:0<=Q1t (l[i.toNat]?.getD 0) 16
   ·have jI:=Q6T (by omega) j1 hd
    have hJ:i+1+(Q27 l 16 (i+1):Nat)=a+N:=by omega
    clear hi jI j1 vC hN;with_reducible refine cv2 (Q0 l) Q1t ?_
    have jB:=Q15 hn;have e9:(Q0 l).getD i.toNat .dead=.val (.int .i32 (l[i.toNat]?.getD 0)):=by rw[getD_eq_getElem?_getD];exact ai
    have eI:std.int (std.nth (std.cel (std.at_ (Q0 l) i)) 0)=l[i.toNat]?.getD 0:=by
     show intOf ((AV.cells ((Q0 l).getD i.toNat .dead)).getD 0 .dead)=_;rw[e9];rfl
    have cDs:BCall prog 199 [.val (.int .i32 (std.int (std.nth (std.cel (std.at_ (Q0 l) i)) 0))),.val (.int .i64 16)] [] (.val (.int .i64 (Q1t (std.int (std.nth (std.cel (std.at_ (Q0 l) i)) 0)) 16))) []:=by rw[eI];exact cDi
    with_reducible repeat' first|refine aU (zA jB <| zA ai <| zA jA <| zA jK <| zA h0 hd) ?_|refine zA ?_ ?_|intro hb
    all_goals
     refine⟨i+1,⟨⟨by omega,by omega⟩,hJ⟩,by omega,[some 0],_,rfl,?_⟩
     exact eq0
   ·have vI:=Q3H (l:=l) (base:=16) (i:=i) (by omega) (fun _=>hd)
    have xi:i=a+N:=by omega
    clear hi j1 vI;with_reducible refine cv2 (Q0 l) Q1t ?_
    have jB:=Q15 hn;have e9:(Q0 l).getD i.toNat .dead=.val (.int .i32 (l[i.toNat]?.getD 0)):=by rw[getD_eq_getElem?_getD];exact ai
    have eI:std.int (std.nth (std.cel (std.at_ (Q0 l) i)) 0)=l[i.toNat]?.getD 0:=by
     show intOf ((AV.cells ((Q0 l).getD i.toNat .dead)).getD 0 .dead)=_;rw[e9];rfl
    have cDs:BCall prog 199 [.val (.int .i32 (std.int (std.nth (std.cel (std.at_ (Q0 l) i)) 0))),.val (.int .i64 16)] [] (.val (.int .i64 (Q1t (std.int (std.nth (std.cel (std.at_ (Q0 l) i)) 0)) 16))) []:=by rw[eI];exact cDi
    with_reducible repeat' first|refine aU (zA jB <| zA jK <| zA h0 <| zA ai <| zA jA hd) ?_|refine zA ?_ ?_|intro hb
    all_goals
     rw[if_pos trivial];with_reducible refine cv2 (Q0 l) Q1t ?_
     have jv:(((Q0 l).length:Nat):Int)=n:=by have:=hn.eq;omega
     with_reducible repeat' first|refine aU (zA jv <| zA jK <| zA h0 <| zA ji <| zA ai <| zA jA <| zA am vn) ?_|refine zA ?_ ?_|(intro hb;try simp[std,S1,jv,jK,h0,ji,ai,jA,am,vn]at hb)
     all_goals
      have z9:=hn.eq;have kF:=hN.eq;have qV:a.toNat+Q27 l 16 a=i.toNat:=by omega
      have vy:=gd.eq
      first
       |(have hT:=vC.trans (if_pos (QY.2 ⟨by omega,by rw[qV];omega,by rw[qV];first|assumption|omega⟩))
         rw[hT]at jD jG jN;have jD:kd=3:=jD;have jG:tt=i+1:=by rw[jG];show((a.toNat+Q27 l 16 a+1:Nat):Int)=_;omega
         have jN:ww=true:=jN;exact .pure rfl ⟨.inl (by rw[jD]),.inl rfl,.inl (by rw[jG];rfl),.inl (by rw[jN]),trivial⟩)
       |(have jY:=vC.trans (if_neg (fun h=>by obtain⟨e1,e2,e3⟩:=QY.1 h;rw[qV]at e2 e3;omega))
         have hT:=Q3P h0 vy (by omega) (by omega) (by first|assumption|omega)
         rw[jY,hT]at jD jG jN;have jD:kd=2:=jD;have jG:tt=k+m+2:=by rw[jG];show(((k+m+2).toNat:Nat):Int)=_;omega
         have jN:ww=true:=jN;exact .pure rfl ⟨.inl (by rw[jD]),.inl rfl,.inl (by rw[jG];rfl),.inl (by rw[jN]),trivial⟩)
       |(have jY:=vC.trans (if_neg (fun h=>by obtain⟨e1,e2,e3⟩:=QY.1 h;rw[qV]at e2 e3;omega))
         have hT:=Q2o h0 vy (fun h=>by obtain⟨e1,e2,e3⟩:=h;omega)
         rw[jY,hT]at jD jG jN;have jD:kd=11:=jD;have jG:tt=k+1:=by rw[jG];show(((k+1).toNat:Nat):Int)=_;omega
         have jN:ww=false:=jN;exact .pure rfl ⟨.inl (by rw[jD]),.inl rfl,.inl (by rw[jG];rfl),.inl (by rw[jN]),trivial⟩)
  ·have vI:=Q3H (l:=l) (base:=16) (i:=i) (by omega) (fun h=>absurd (by have:=hn.eq;omega) jA)
   have xi:i=a+N:=by omega
   clear hi vI;with_reducible refine cv2 (Q0 l) Q1t ?_
   have jB:=Q15 hn;with_reducible repeat' first|refine aU (zA jB <| zA jK <| zA h0 jA) ?_|refine zA ?_ ?_|intro hb
   all_goals
    rw[if_pos trivial];with_reducible refine cv2 (Q0 l) Q1t ?_
    have jv:(((Q0 l).length:Nat):Int)=n:=by have:=hn.eq;omega
    with_reducible repeat' first|refine aU (zA jv <| zA jK <| zA h0 <| zA ji <| zA jA <| zA am vn) ?_|refine zA ?_ ?_|(intro hb;try simp[std,S1,jv,jK,h0,ji,jA,am,vn]at hb)
    all_goals
     have z9:=hn.eq;have kF:=hN.eq;have qV:a.toNat+Q27 l 16 a=i.toNat:=by omega
     have vy:=gd.eq
     first
      |(have hT:=vC.trans (if_pos (QY.2 ⟨by omega,by rw[qV];omega,by rw[qV];first|assumption|omega⟩))
        rw[hT]at jD jG jN;have jD:kd=3:=jD;have jG:tt=i+1:=by rw[jG];show((a.toNat+Q27 l 16 a+1:Nat):Int)=_;omega
        have jN:ww=true:=jN;exact .pure rfl ⟨.inl (by rw[jD]),.inl rfl,.inl (by rw[jG];rfl),.inl (by rw[jN]),trivial⟩)
      |(have jY:=vC.trans (if_neg (fun h=>by obtain⟨e1,e2,e3⟩:=QY.1 h;rw[qV]at e2 e3;omega))
        have hT:=Q3P h0 vy (by omega) (by omega) (by first|assumption|omega)
        rw[jY,hT]at jD jG jN;have jD:kd=2:=jD;have jG:tt=k+m+2:=by rw[jG];show(((k+m+2).toNat:Nat):Int)=_;omega
        have jN:ww=true:=jN;exact .pure rfl ⟨.inl (by rw[jD]),.inl rfl,.inl (by rw[jG];rfl),.inl (by rw[jN]),trivial⟩)
      |(have jY:=vC.trans (if_neg (fun h=>by obtain⟨e1,e2,e3⟩:=QY.1 h;rw[qV]at e2 e3;omega))
        have hT:=Q2o h0 vy (fun h=>by obtain⟨e1,e2,e3⟩:=h;omega)
        rw[jY,hT]at jD jG jN;have jD:kd=11:=jD;have jG:tt=k+1:=by rw[jG];show(((k+1).toNat:Nat):Int)=_;omega
        have jN:ww=false:=jN;exact .pure rfl ⟨.inl (by rw[jD]),.inl rfl,.inl (by rw[jG];rfl),.inl (by rw[jN]),trivial⟩)
theorem Qms(l:List Int)(hl:l.length<=1000000000)(hu:Un l)(k:Int)(h0:0<=k)(h1:k<l.length)(jL:Q6 l k.toNat [38,35]=true)(jT:Q6 l k.toNat [38,35,120]=true)(vS:¬k+1+((Qj l (k.toNat+1):Nat):Int)<l.length):BCall prog 157 [.slc 1 (Q0 l),.val (.int .i64 k)] [] (Q1B ((Q1n l k.toNat).1:Nat) k ((Q1n l k.toNat).2.1:Nat) (Q1n l k.toNat).2.2) []:=by
 have c1:BCall prog 151 [.slc 1 (Q0 l),.val (.int .i64 k),.val (.string ⟨#[38,35]⟩)] [] (.val (.bool (Q6 l k.toNat [38,35]))) []:=Qc l hl hu.i32 k h0 (by omega) ⟨#[38,35]⟩ (by decide)
 have c2:BCall prog 151 [.slc 1 (Q0 l),.val (.int .i64 k),.val (.string ⟨#[38,35,120]⟩)] [] (.val (.bool (Q6 l k.toNat [38,35,120]))) []:=Qc l hl hu.i32 k h0 (by omega) ⟨#[38,35,120]⟩ (by decide)
 have cL:=Q4G l hl (k+1) (by omega) (by omega)
 rw[show(k+1).toNat=k.toNat+1 by omega]at cL
 have jJ:Qj l (k.toNat+1)<=l.length:=by
  unfold Qj;split
  ·omega
  ·split
   ·have:=(takeWhile_sublist Qq (l:=l.drop (k.toNat+1))).length_le
    rw[length_drop]at this;omega
   ·omega
 obtain⟨n,hn⟩:=QE l;have jt:=Qx l;have ji:k<n:=by have:=hn.eq;omega
 have qD:n<=1000000000:=by have:=hn.eq;omega
 obtain⟨m,v9⟩:=exq ((Qj l (k.toNat+1):Nat):Int);have qA:0<=m:=by omega
 have vH:m<=n:=by have:=hn.eq;omega
 rw[<-v9]at cL vS;have hD:∀i:Int,0<=i->i<n->∀base,BCall prog 199 [.val (.int .i32 (l[i.toNat]?.getD 0)),.val (.int .i64 base)] [] (.val (.int .i64 (Q1t (l[i.toNat]?.getD 0) base))) []:=fun i i0 i1 base=>Q4Y _ base (hu.at_ i i0 (by have:=hn.eq;omega))
 obtain⟨kd,jD⟩:=exq (((Q1n l k.toNat).1:Nat):Int);obtain⟨tt,jG⟩:=exq (((Q1n l k.toNat).2.1:Nat):Int);obtain⟨ww,jN⟩:=exq ((Q1n l k.toNat).2.2:Bool);rw[<-jD,<-jG,<-jN,Q1B];clear jJ;have j2:=Q17 l k.toNat _ (by omega) jT
 simp only[length_cons,length_nil]at j2;obtain⟨a,ha⟩:=exq (k+3:Int);have cO:a<=n:=by have:=hn.eq;omega
 have vC:=Q9E jL 16 a (.inl ⟨jT,rfl,by omega⟩)
 rw[jL]at c1;rw[jT]at c2;obtain⟨N,hN⟩:∃N:Int,IsN (Q27 l 16 a) N:=⟨_,rfl⟩;have hN0:0<=N:=by have:=hN.eq;omega
 have gd:IsN (Qj l (k.toNat+1)) m:=v9;have pv:k<a:=by omega
 have vn:¬k+1+m<n:=by have:=hn.eq;omega
 clear jL jT j2 v9 vS;refine fnN (Q3j true true Q1t m) func157 rfl fun _ _=>?_
 with_reducible refine cv2 (Q0 l) Q1t ?_
 have jB:=Q15 hn;with_reducible repeat' first|refine aU (zA jB <| zA h0 ji) ?_|refine zA ?_ ?_|intro hb
 refine Q1h (Q3j true true Q1t m) (Int) (fun i=>⟨[(0,.slc 1 (Q0 l)),(1,.val (.int .i64 k)),(4,.box 0 0),(5,.val (.int .i64 16)),(6,.val (.int .i64 a)),(7,.val (.int .i64 i))],[.box [.val (.int .i64 0),.val (.int .i64 0),.val (.int .i64 0),.val (.bool false)]]⟩) (fun i=>(a<=i/\i<=n)/\i+(Q27 l 16 i:Nat)=a+N) (fun i=>(n-i).toNat) a ?_ ?_ ?_
 ·exact⟨⟨le_refl _,cO⟩,by rw[hN.eq]⟩
 ·have yN:std.add k 3=a:=ha.symm
  refine⟨[some 0],_,rfl,?_⟩;exact eq1 yN
 ·rintro i ⟨⟨vJ,v8⟩,hi⟩
  have jK:a<=i:=vJ;have jM:i<=n:=v8;have hi:i+(Q27 l 16 i:Nat)=a+N:=hi;clear vJ v8 jB ha;by_cases jA:i<n
  ·have j1:i<l.length:=by have:=hn.eq;omega
   have ai:=QJ (l:=l) (i:=i) (by omega) j1
   have cDi:=hD i (by omega) jA 16
   by_cases hd:0<=Q1t (l[i.toNat]?.getD 0) 16
   ·have jI:=Q6T (by omega) j1 hd
    have hJ:i+1+(Q27 l 16 (i+1):Nat)=a+N:=by omega
    clear hi jI j1 vC hN;with_reducible refine cv2 (Q0 l) Q1t ?_
    have jB:=Q15 hn;have e9:(Q0 l).getD i.toNat .dead=.val (.int .i32 (l[i.toNat]?.getD 0)):=by rw[getD_eq_getElem?_getD];exact ai
    have eI:std.int (std.nth (std.cel (std.at_ (Q0 l) i)) 0)=l[i.toNat]?.getD 0:=by
     show intOf ((AV.cells ((Q0 l).getD i.toNat .dead)).getD 0 .dead)=_;rw[e9];rfl
    have cDs:BCall prog 199 [.val (.int .i32 (std.int (std.nth (std.cel (std.at_ (Q0 l) i)) 0))),.val (.int .i64 16)] [] (.val (.int .i64 (Q1t (std.int (std.nth (std.cel (std.at_ (Q0 l) i)) 0)) 16))) []:=by rw[eI];exact cDi
    with_reducible repeat' first|refine aU (zA jB <| zA ai <| zA jA <| zA jK <| zA h0 hd) ?_|refine zA ?_ ?_|intro hb
    all_goals
     refine⟨i+1,⟨⟨by omega,by omega⟩,hJ⟩,by omega,[some 0],_,rfl,?_⟩
     exact eq0
   ·have vI:=Q3H (l:=l) (base:=16) (i:=i) (by omega) (fun _=>hd)
    have xi:i=a+N:=by omega
    clear hi j1 vI;with_reducible refine cv2 (Q0 l) Q1t ?_
    have jB:=Q15 hn;have e9:(Q0 l).getD i.toNat .dead=.val (.int .i32 (l[i.toNat]?.getD 0)):=by rw[getD_eq_getElem?_getD];exact ai
    have eI:std.int (std.nth (std.cel (std.at_ (Q0 l) i)) 0)=l[i.toNat]?.getD 0:=by
     show intOf ((AV.cells ((Q0 l).getD i.toNat .dead)).getD 0 .dead)=_;rw[e9];rfl
    have cDs:BCall prog 199 [.val (.int .i32 (std.int (std.nth (std.cel (std.at_ (Q0 l) i)) 0))),.val (.int .i64 16)] [] (.val (.int .i64 (Q1t (std.int (std.nth (std.cel (std.at_ (Q0 l) i)) 0)) 16))) []:=by rw[eI];exact cDi
    with_reducible repeat' first|refine aU (zA jB <| zA jK <| zA h0 <| zA ai <| zA jA hd) ?_|refine zA ?_ ?_|intro hb
    all_goals
     rw[if_pos trivial];with_reducible refine cv2 (Q0 l) Q1t ?_
     have jv:(((Q0 l).length:Nat):Int)=n:=by have:=hn.eq;omega
     with_reducible repeat' first|refine aU (zA jv <| zA jK <| zA h0 <| zA ji <| zA ai <| zA jA vn) ?_|refine zA ?_ ?_|(intro hb;try simp[std,S1,jv,jK,h0,ji,ai,jA,vn]at hb)
     all_goals
      have z9:=hn.eq;have kF:=hN.eq;have qV:a.toNat+Q27 l 16 a=i.toNat:=by omega
      have vy:=gd.eq
      first
       |(have hT:=vC.trans (if_pos (QY.2 ⟨by omega,by rw[qV];omega,by rw[qV];first|assumption|omega⟩))
         rw[hT]at jD jG jN;have jD:kd=3:=jD;have jG:tt=i+1:=by rw[jG];show((a.toNat+Q27 l 16 a+1:Nat):Int)=_;omega
         have jN:ww=true:=jN;exact .pure rfl ⟨.inl (by rw[jD]),.inl rfl,.inl (by rw[jG];rfl),.inl (by rw[jN]),trivial⟩)
       |(have jY:=vC.trans (if_neg (fun h=>by obtain⟨e1,e2,e3⟩:=QY.1 h;rw[qV]at e2 e3;omega))
         have hT:=Q3P h0 vy (by omega) (by omega) (by first|assumption|omega)
         rw[jY,hT]at jD jG jN;have jD:kd=2:=jD;have jG:tt=k+m+2:=by rw[jG];show(((k+m+2).toNat:Nat):Int)=_;omega
         have jN:ww=true:=jN;exact .pure rfl ⟨.inl (by rw[jD]),.inl rfl,.inl (by rw[jG];rfl),.inl (by rw[jN]),trivial⟩)
       |(have jY:=vC.trans (if_neg (fun h=>by obtain⟨e1,e2,e3⟩:=QY.1 h;rw[qV]at e2 e3;omega))
         have hT:=Q2o h0 vy (fun h=>by obtain⟨e1,e2,e3⟩:=h;omega)
         rw[jY,hT]at jD jG jN;have jD:kd=11:=jD;have jG:tt=k+1:=by rw[jG];show(((k+1).toNat:Nat):Int)=_;omega
         have jN:ww=false:=jN;exact .pure rfl ⟨.inl (by rw[jD]),.inl rfl,.inl (by rw[jG];rfl),.inl (by rw[jN]),trivial⟩)
  ·have vI:=Q3H (l:=l) (base:=16) (i:=i) (by omega) (fun h=>absurd (by have:=hn.eq;omega) jA)
   have xi:i=a+N:=by omega
   clear hi vI;with_reducible refine cv2 (Q0 l) Q1t ?_
   have jB:=Q15 hn;with_reducible repeat' first|refine aU (zA jB <| zA jK <| zA h0 jA) ?_|refine zA ?_ ?_|intro hb
   all_goals
    rw[if_pos trivial];with_reducible refine cv2 (Q0 l) Q1t ?_
    have jv:(((Q0 l).length:Nat):Int)=n:=by have:=hn.eq;omega
    with_reducible repeat' first|refine aU (zA jv <| zA jK <| zA h0 <| zA ji <| zA jA vn) ?_|refine zA ?_ ?_|(intro hb;try simp[std,S1,jv,jK,h0,ji,jA,vn]at hb)
    all_goals
     have z9:=hn.eq;have kF:=hN.eq;have qV:a.toNat+Q27 l 16 a=i.toNat:=by omega
     have vy:=gd.eq
     first
      |(have hT:=vC.trans (if_pos (QY.2 ⟨by omega,by rw[qV];omega,by rw[qV];first|assumption|omega⟩))
        rw[hT]at jD jG jN;have jD:kd=3:=jD;have jG:tt=i+1:=by rw[jG];show((a.toNat+Q27 l 16 a+1:Nat):Int)=_;omega
        have jN:ww=true:=jN;exact .pure rfl ⟨.inl (by rw[jD]),.inl rfl,.inl (by rw[jG];rfl),.inl (by rw[jN]),trivial⟩)
      |(have jY:=vC.trans (if_neg (fun h=>by obtain⟨e1,e2,e3⟩:=QY.1 h;rw[qV]at e2 e3;omega))
        have hT:=Q3P h0 vy (by omega) (by omega) (by first|assumption|omega)
        rw[jY,hT]at jD jG jN;have jD:kd=2:=jD;have jG:tt=k+m+2:=by rw[jG];show(((k+m+2).toNat:Nat):Int)=_;omega
        have jN:ww=true:=jN;exact .pure rfl ⟨.inl (by rw[jD]),.inl rfl,.inl (by rw[jG];rfl),.inl (by rw[jN]),trivial⟩)
      |(have jY:=vC.trans (if_neg (fun h=>by obtain⟨e1,e2,e3⟩:=QY.1 h;rw[qV]at e2 e3;omega))
        have hT:=Q2o h0 vy (fun h=>by obtain⟨e1,e2,e3⟩:=h;omega)
        rw[jY,hT]at jD jG jN;have jD:kd=11:=jD;have jG:tt=k+1:=by rw[jG];show(((k+1).toNat:Nat):Int)=_;omega
        have jN:ww=false:=jN;exact .pure rfl ⟨.inl (by rw[jD]),.inl rfl,.inl (by rw[jG];rfl),.inl (by rw[jN]),trivial⟩)
theorem Qm2(l:List Int)(hl:l.length<=1000000000)(hu:Un l)(k:Int)(h0:0<=k)(h1:k<l.length)(jL:Q6 l k.toNat [38,35]=true)(jT:Q6 l k.toNat [38,35,120]=false)(vS:k+1+((Qj l (k.toNat+1):Nat):Int)<l.length):BCall prog 157 [.slc 1 (Q0 l),.val (.int .i64 k)] [] (Q1B ((Q1n l k.toNat).1:Nat) k ((Q1n l k.toNat).2.1:Nat) (Q1n l k.toNat).2.2) []:=by
 have c1:BCall prog 151 [.slc 1 (Q0 l),.val (.int .i64 k),.val (.string ⟨#[38,35]⟩)] [] (.val (.bool (Q6 l k.toNat [38,35]))) []:=Qc l hl hu.i32 k h0 (by omega) ⟨#[38,35]⟩ (by decide)
 have c2:BCall prog 151 [.slc 1 (Q0 l),.val (.int .i64 k),.val (.string ⟨#[38,35,120]⟩)] [] (.val (.bool (Q6 l k.toNat [38,35,120]))) []:=Qc l hl hu.i32 k h0 (by omega) ⟨#[38,35,120]⟩ (by decide)
 have cL:=Q4G l hl (k+1) (by omega) (by omega)
 rw[show(k+1).toNat=k.toNat+1 by omega]at cL
 have jJ:Qj l (k.toNat+1)<=l.length:=by
  unfold Qj;split
  ·omega
  ·split
   ·have:=(takeWhile_sublist Qq (l:=l.drop (k.toNat+1))).length_le
    rw[length_drop]at this;omega
   ·omega
 obtain⟨n,hn⟩:=QE l;have jt:=Qx l;have ji:k<n:=by have:=hn.eq;omega
 have qD:n<=1000000000:=by have:=hn.eq;omega
 obtain⟨m,v9⟩:=exq ((Qj l (k.toNat+1):Nat):Int);have qA:0<=m:=by omega
 have vH:m<=n:=by have:=hn.eq;omega
 rw[<-v9]at cL vS;have hD:∀i:Int,0<=i->i<n->∀base,BCall prog 199 [.val (.int .i32 (l[i.toNat]?.getD 0)),.val (.int .i64 base)] [] (.val (.int .i64 (Q1t (l[i.toNat]?.getD 0) base))) []:=fun i i0 i1 base=>Q4Y _ base (hu.at_ i i0 (by have:=hn.eq;omega))
 obtain⟨kd,jD⟩:=exq (((Q1n l k.toNat).1:Nat):Int);obtain⟨tt,jG⟩:=exq (((Q1n l k.toNat).2.1:Nat):Int);obtain⟨ww,jN⟩:=exq ((Q1n l k.toNat).2.2:Bool);rw[<-jD,<-jG,<-jN,Q1B];clear jJ;have j2:=Q17 l k.toNat _ (by omega) jL
 simp only[length_cons,length_nil]at j2;obtain⟨a,ha⟩:=exq (k+2:Int);have cO:a<=n:=by have:=hn.eq;omega
 have vC:=Q9E jL 10 a (.inr ⟨jT,rfl,by omega⟩)
 rw[jL]at c1;rw[jT]at c2;obtain⟨N,hN⟩:∃N:Int,IsN (Q27 l 10 a) N:=⟨_,rfl⟩;have hN0:0<=N:=by have:=hN.eq;omega
 have gd:IsN (Qj l (k.toNat+1)) m:=v9;have pv:k<a:=by omega
 have vn:k+1+m<n:=by have:=hn.eq;omega
 have am:=QJ (l:=l) (i:=k+1+m) (by omega) vS
 clear jL jT j2 v9 vS;refine fnN (Q3j true false Q1t m) func157 rfl fun _ _=>?_
 with_reducible refine cv2 (Q0 l) Q1t ?_
 have jB:=Q15 hn;with_reducible repeat' first|refine aU (zA jB <| zA h0 ji) ?_|refine zA ?_ ?_|intro hb
 refine Q1h (Q3j true false Q1t m) (Int) (fun i=>⟨[(0,.slc 1 (Q0 l)),(1,.val (.int .i64 k)),(4,.box 0 0),(5,.val (.int .i64 10)),(6,.val (.int .i64 a)),(7,.val (.int .i64 i))],[.box [.val (.int .i64 0),.val (.int .i64 0),.val (.int .i64 0),.val (.bool false)]]⟩) (fun i=>(a<=i/\i<=n)/\i+(Q27 l 10 i:Nat)=a+N) (fun i=>(n-i).toNat) a ?_ ?_ ?_
 ·exact⟨⟨le_refl _,cO⟩,by rw[hN.eq]⟩
 ·have yN:std.add k 2=a:=ha.symm
  refine⟨[some 0],_,rfl,?_⟩;exact eq1 yN
 ·rintro i ⟨⟨vJ,v8⟩,hi⟩
  have jK:a<=i:=vJ;have jM:i<=n:=v8;have hi:i+(Q27 l 10 i:Nat)=a+N:=hi;clear vJ v8 jB ha;by_cases jA:i<n
  ·have j1:i<l.length:=by have:=hn.eq;omega
   have ai:=QJ (l:=l) (i:=i) (by omega) j1
   have cDi:=hD i (by omega) jA 10
   by_cases hd:0<=Q1t (l[i.toNat]?.getD 0) 10
   ·have jI:=Q6T (by omega) j1 hd
    have hJ:i+1+(Q27 l 10 (i+1):Nat)=a+N:=by omega
    clear hi jI j1 vC hN;with_reducible refine cv2 (Q0 l) Q1t ?_
    have jB:=Q15 hn;have e9:(Q0 l).getD i.toNat .dead=.val (.int .i32 (l[i.toNat]?.getD 0)):=by rw[getD_eq_getElem?_getD];exact ai
    have eI:std.int (std.nth (std.cel (std.at_ (Q0 l) i)) 0)=l[i.toNat]?.getD 0:=by
     show intOf ((AV.cells ((Q0 l).getD i.toNat .dead)).getD 0 .dead)=_;rw[e9];rfl
    have cDs:BCall prog 199 [.val (.int .i32 (std.int (std.nth (std.cel (std.at_ (Q0 l) i)) 0))),.val (.int .i64 10)] [] (.val (.int .i64 (Q1t (std.int (std.nth (std.cel (std.at_ (Q0 l) i)) 0)) 10))) []:=by rw[eI];exact cDi
    with_reducible repeat' first|refine aU (zA jB <| zA ai <| zA jA <| zA jK <| zA h0 hd) ?_|refine zA ?_ ?_|intro hb
    all_goals
     refine⟨i+1,⟨⟨by omega,by omega⟩,hJ⟩,by omega,[some 0],_,rfl,?_⟩
     exact eq0
   ·have vI:=Q3H (l:=l) (base:=10) (i:=i) (by omega) (fun _=>hd)
    have xi:i=a+N:=by omega
    clear hi j1 vI;with_reducible refine cv2 (Q0 l) Q1t ?_
    have jB:=Q15 hn;have e9:(Q0 l).getD i.toNat .dead=.val (.int .i32 (l[i.toNat]?.getD 0)):=by rw[getD_eq_getElem?_getD];exact ai
    have eI:std.int (std.nth (std.cel (std.at_ (Q0 l) i)) 0)=l[i.toNat]?.getD 0:=by
     show intOf ((AV.cells ((Q0 l).getD i.toNat .dead)).getD 0 .dead)=_;rw[e9];rfl
    have cDs:BCall prog 199 [.val (.int .i32 (std.int (std.nth (std.cel (std.at_ (Q0 l) i)) 0))),.val (.int .i64 10)] [] (.val (.int .i64 (Q1t (std.int (std.nth (std.cel (std.at_ (Q0 l) i)) 0)) 10))) []:=by rw[eI];exact cDi
    with_reducible repeat' first|refine aU (zA jB <| zA jK <| zA h0 <| zA ai <| zA jA hd) ?_|refine zA ?_ ?_|intro hb
    all_goals
     rw[if_pos trivial];with_reducible refine cv2 (Q0 l) Q1t ?_
     have jv:(((Q0 l).length:Nat):Int)=n:=by have:=hn.eq;omega
     with_reducible repeat' first|refine aU (zA jv <| zA jK <| zA h0 <| zA ji <| zA ai <| zA jA <| zA am vn) ?_|refine zA ?_ ?_|(intro hb;try simp[std,S1,jv,jK,h0,ji,ai,jA,am,vn]at hb)
     all_goals
      have z9:=hn.eq;have kF:=hN.eq;have qV:a.toNat+Q27 l 10 a=i.toNat:=by omega
      have vy:=gd.eq
      first
       |(have hT:=vC.trans (if_pos (QY.2 ⟨by omega,by rw[qV];omega,by rw[qV];first|assumption|omega⟩))
         rw[hT]at jD jG jN;have jD:kd=3:=jD;have jG:tt=i+1:=by rw[jG];show((a.toNat+Q27 l 10 a+1:Nat):Int)=_;omega
         have jN:ww=true:=jN;exact .pure rfl ⟨.inl (by rw[jD]),.inl rfl,.inl (by rw[jG];rfl),.inl (by rw[jN]),trivial⟩)
       |(have jY:=vC.trans (if_neg (fun h=>by obtain⟨e1,e2,e3⟩:=QY.1 h;rw[qV]at e2 e3;omega))
         have hT:=Q3P h0 vy (by omega) (by omega) (by first|assumption|omega)
         rw[jY,hT]at jD jG jN;have jD:kd=2:=jD;have jG:tt=k+m+2:=by rw[jG];show(((k+m+2).toNat:Nat):Int)=_;omega
         have jN:ww=true:=jN;exact .pure rfl ⟨.inl (by rw[jD]),.inl rfl,.inl (by rw[jG];rfl),.inl (by rw[jN]),trivial⟩)
       |(have jY:=vC.trans (if_neg (fun h=>by obtain⟨e1,e2,e3⟩:=QY.1 h;rw[qV]at e2 e3;omega))
         have hT:=Q2o h0 vy (fun h=>by obtain⟨e1,e2,e3⟩:=h;omega)
         rw[jY,hT]at jD jG jN;have jD:kd=11:=jD;have jG:tt=k+1:=by rw[jG];show(((k+1).toNat:Nat):Int)=_;omega
         have jN:ww=false:=jN;exact .pure rfl ⟨.inl (by rw[jD]),.inl rfl,.inl (by rw[jG];rfl),.inl (by rw[jN]),trivial⟩)
  ·have vI:=Q3H (l:=l) (base:=10) (i:=i) (by omega) (fun h=>absurd (by have:=hn.eq;omega) jA)
   have xi:i=a+N:=by omega
   clear hi vI;with_reducible refine cv2 (Q0 l) Q1t ?_
   have jB:=Q15 hn;with_reducible repeat' first|refine aU (zA jB <| zA jK <| zA h0 jA) ?_|refine zA ?_ ?_|intro hb
   all_goals
    rw[if_pos trivial];with_reducible refine cv2 (Q0 l) Q1t ?_
    have jv:(((Q0 l).length:Nat):Int)=n:=by have:=hn.eq;omega
    with_reducible repeat' first|refine aU (zA jv <| zA jK <| zA h0 <| zA ji <| zA jA <| zA am vn) ?_|refine zA ?_ ?_|(intro hb;try simp[std,S1,jv,jK,h0,ji,jA,am,vn]at hb)
    all_goals
     have z9:=hn.eq;have kF:=hN.eq;have qV:a.toNat+Q27 l 10 a=i.toNat:=by omega
     have vy:=gd.eq
     first
      |(have hT:=vC.trans (if_pos (QY.2 ⟨by omega,by rw[qV];omega,by rw[qV];first|assumption|omega⟩))
        rw[hT]at jD jG jN;have jD:kd=3:=jD;have jG:tt=i+1:=by rw[jG];show((a.toNat+Q27 l 10 a+1:Nat):Int)=_;omega
        have jN:ww=true:=jN;exact .pure rfl ⟨.inl (by rw[jD]),.inl rfl,.inl (by rw[jG];rfl),.inl (by rw[jN]),trivial⟩)
      |(have jY:=vC.trans (if_neg (fun h=>by obtain⟨e1,e2,e3⟩:=QY.1 h;rw[qV]at e2 e3;omega))
        have hT:=Q3P h0 vy (by omega) (by omega) (by first|assumption|omega)
        rw[jY,hT]at jD jG jN;have jD:kd=2:=jD;have jG:tt=k+m+2:=by rw[jG];show(((k+m+2).toNat:Nat):Int)=_;omega
        have jN:ww=true:=jN;exact .pure rfl ⟨.inl (by rw[jD]),.inl rfl,.inl (by rw[jG];rfl),.inl (by rw[jN]),trivial⟩)
      |(have jY:=vC.trans (if_neg (fun h=>by obtain⟨e1,e2,e3⟩:=QY.1 h;rw[qV]at e2 e3;omega))
        have hT:=Q2o h0 vy (fun h=>by obtain⟨e1,e2,e3⟩:=h;omega)
        rw[jY,hT]at jD jG jN;have jD:kd=11:=jD;have jG:tt=k+1:=by rw[jG];show(((k+1).toNat:Nat):Int)=_;omega
        have jN:ww=false:=jN;exact .pure rfl ⟨.inl (by rw[jD]),.inl rfl,.inl (by rw[jG];rfl),.inl (by rw[jN]),trivial⟩)
theorem Qnz(l:List Int)(hl:l.length<=1000000000)(hu:Un l)(k:Int)(h0:0<=k)(h1:k<l.length)(jL:Q6 l k.toNat [38,35]=true)(jT:Q6 l k.toNat [38,35,120]=false)(vS:¬k+1+((Qj l (k.toNat+1):Nat):Int)<l.length):BCall prog 157 [.slc 1 (Q0 l),.val (.int .i64 k)] [] (Q1B ((Q1n l k.toNat).1:Nat) k ((Q1n l k.toNat).2.1:Nat) (Q1n l k.toNat).2.2) []:=by
 have c1:BCall prog 151 [.slc 1 (Q0 l),.val (.int .i64 k),.val (.string ⟨#[38,35]⟩)] [] (.val (.bool (Q6 l k.toNat [38,35]))) []:=Qc l hl hu.i32 k h0 (by omega) ⟨#[38,35]⟩ (by decide)
 have c2:BCall prog 151 [.slc 1 (Q0 l),.val (.int .i64 k),.val (.string ⟨#[38,35,120]⟩)] [] (.val (.bool (Q6 l k.toNat [38,35,120]))) []:=Qc l hl hu.i32 k h0 (by omega) ⟨#[38,35,120]⟩ (by decide)
 have cL:=Q4G l hl (k+1) (by omega) (by omega)
 rw[show(k+1).toNat=k.toNat+1 by omega]at cL
 have jJ:Qj l (k.toNat+1)<=l.length:=by
  unfold Qj;split
  ·omega
  ·split
   ·have:=(takeWhile_sublist Qq (l:=l.drop (k.toNat+1))).length_le
    rw[length_drop]at this;omega
   ·omega
 obtain⟨n,hn⟩:=QE l;have jt:=Qx l;have ji:k<n:=by have:=hn.eq;omega
 have qD:n<=1000000000:=by have:=hn.eq;omega
 obtain⟨m,v9⟩:=exq ((Qj l (k.toNat+1):Nat):Int);have qA:0<=m:=by omega
 have vH:m<=n:=by have:=hn.eq;omega
 rw[<-v9]at cL vS;have hD:∀i:Int,0<=i->i<n->∀base,BCall prog 199 [.val (.int .i32 (l[i.toNat]?.getD 0)),.val (.int .i64 base)] [] (.val (.int .i64 (Q1t (l[i.toNat]?.getD 0) base))) []:=fun i i0 i1 base=>Q4Y _ base (hu.at_ i i0 (by have:=hn.eq;omega))
 obtain⟨kd,jD⟩:=exq (((Q1n l k.toNat).1:Nat):Int);obtain⟨tt,jG⟩:=exq (((Q1n l k.toNat).2.1:Nat):Int);obtain⟨ww,jN⟩:=exq ((Q1n l k.toNat).2.2:Bool);rw[<-jD,<-jG,<-jN,Q1B];clear jJ;have j2:=Q17 l k.toNat _ (by omega) jL
 simp only[length_cons,length_nil]at j2;obtain⟨a,ha⟩:=exq (k+2:Int);have cO:a<=n:=by have:=hn.eq;omega
 have vC:=Q9E jL 10 a (.inr ⟨jT,rfl,by omega⟩)
 rw[jL]at c1;rw[jT]at c2;obtain⟨N,hN⟩:∃N:Int,IsN (Q27 l 10 a) N:=⟨_,rfl⟩;have hN0:0<=N:=by have:=hN.eq;omega
 have gd:IsN (Qj l (k.toNat+1)) m:=v9;have pv:k<a:=by omega
 have vn:¬k+1+m<n:=by have:=hn.eq;omega
 clear jL jT j2 v9 vS;refine fnN (Q3j true false Q1t m) func157 rfl fun _ _=>?_
 with_reducible refine cv2 (Q0 l) Q1t ?_
 have jB:=Q15 hn;with_reducible repeat' first|refine aU (zA jB <| zA h0 ji) ?_|refine zA ?_ ?_|intro hb
 refine Q1h (Q3j true false Q1t m) (Int) (fun i=>⟨[(0,.slc 1 (Q0 l)),(1,.val (.int .i64 k)),(4,.box 0 0),(5,.val (.int .i64 10)),(6,.val (.int .i64 a)),(7,.val (.int .i64 i))],[.box [.val (.int .i64 0),.val (.int .i64 0),.val (.int .i64 0),.val (.bool false)]]⟩) (fun i=>(a<=i/\i<=n)/\i+(Q27 l 10 i:Nat)=a+N) (fun i=>(n-i).toNat) a ?_ ?_ ?_
 ·exact⟨⟨le_refl _,cO⟩,by rw[hN.eq]⟩
 ·have yN:std.add k 2=a:=ha.symm
  refine⟨[some 0],_,rfl,?_⟩;exact eq1 yN
 ·rintro i ⟨⟨vJ,v8⟩,hi⟩
  have jK:a<=i:=vJ;have jM:i<=n:=v8;have hi:i+(Q27 l 10 i:Nat)=a+N:=hi;clear vJ v8 jB ha;by_cases jA:i<n
  ·have j1:i<l.length:=by have:=hn.eq;omega
   have ai:=QJ (l:=l) (i:=i) (by omega) j1
   have cDi:=hD i (by omega) jA 10
   by_cases hd:0<=Q1t (l[i.toNat]?.getD 0) 10
   ·have jI:=Q6T (by omega) j1 hd
    have hJ:i+1+(Q27 l 10 (i+1):Nat)=a+N:=by omega
    clear hi jI j1 vC hN;with_reducible refine cv2 (Q0 l) Q1t ?_
    have jB:=Q15 hn;have e9:(Q0 l).getD i.toNat .dead=.val (.int .i32 (l[i.toNat]?.getD 0)):=by rw[getD_eq_getElem?_getD];exact ai
    have eI:std.int (std.nth (std.cel (std.at_ (Q0 l) i)) 0)=l[i.toNat]?.getD 0:=by
     show intOf ((AV.cells ((Q0 l).getD i.toNat .dead)).getD 0 .dead)=_;rw[e9];rfl
    have cDs:BCall prog 199 [.val (.int .i32 (std.int (std.nth (std.cel (std.at_ (Q0 l) i)) 0))),.val (.int .i64 10)] [] (.val (.int .i64 (Q1t (std.int (std.nth (std.cel (std.at_ (Q0 l) i)) 0)) 10))) []:=by rw[eI];exact cDi
    with_reducible repeat' first|refine aU (zA jB <| zA ai <| zA jA <| zA jK <| zA h0 hd) ?_|refine zA ?_ ?_|intro hb
    all_goals
     refine⟨i+1,⟨⟨by omega,by omega⟩,hJ⟩,by omega,[some 0],_,rfl,?_⟩
     exact eq0
   ·have vI:=Q3H (l:=l) (base:=10) (i:=i) (by omega) (fun _=>hd)
    have xi:i=a+N:=by omega
    clear hi j1 vI;with_reducible refine cv2 (Q0 l) Q1t ?_
    have jB:=Q15 hn;have e9:(Q0 l).getD i.toNat .dead=.val (.int .i32 (l[i.toNat]?.getD 0)):=by rw[getD_eq_getElem?_getD];exact ai
    have eI:std.int (std.nth (std.cel (std.at_ (Q0 l) i)) 0)=l[i.toNat]?.getD 0:=by
     show intOf ((AV.cells ((Q0 l).getD i.toNat .dead)).getD 0 .dead)=_;rw[e9];rfl
    have cDs:BCall prog 199 [.val (.int .i32 (std.int (std.nth (std.cel (std.at_ (Q0 l) i)) 0))),.val (.int .i64 10)] [] (.val (.int .i64 (Q1t (std.int (std.nth (std.cel (std.at_ (Q0 l) i)) 0)) 10))) []:=by rw[eI];exact cDi
    with_reducible repeat' first|refine aU (zA jB <| zA jK <| zA h0 <| zA ai <| zA jA hd) ?_|refine zA ?_ ?_|intro hb
    all_goals
     rw[if_pos trivial];with_reducible refine cv2 (Q0 l) Q1t ?_
     have jv:(((Q0 l).length:Nat):Int)=n:=by have:=hn.eq;omega
     with_reducible repeat' first|refine aU (zA jv <| zA jK <| zA h0 <| zA ji <| zA ai <| zA jA vn) ?_|refine zA ?_ ?_|(intro hb;try simp[std,S1,jv,jK,h0,ji,ai,jA,vn]at hb)
     all_goals
      have z9:=hn.eq;have kF:=hN.eq;have qV:a.toNat+Q27 l 10 a=i.toNat:=by omega
      have vy:=gd.eq
      first
       |(have hT:=vC.trans (if_pos (QY.2 ⟨by omega,by rw[qV];omega,by rw[qV];first|assumption|omega⟩))
         rw[hT]at jD jG jN;have jD:kd=3:=jD;have jG:tt=i+1:=by rw[jG];show((a.toNat+Q27 l 10 a+1:Nat):Int)=_;omega
         have jN:ww=true:=jN;exact .pure rfl ⟨.inl (by rw[jD]),.inl rfl,.inl (by rw[jG];rfl),.inl (by rw[jN]),trivial⟩)
       |(have jY:=vC.trans (if_neg (fun h=>by obtain⟨e1,e2,e3⟩:=QY.1 h;rw[qV]at e2 e3;omega))
         have hT:=Q3P h0 vy (by omega) (by omega) (by first|assumption|omega)
         rw[jY,hT]at jD jG jN;have jD:kd=2:=jD;have jG:tt=k+m+2:=by rw[jG];show(((k+m+2).toNat:Nat):Int)=_;omega
         have jN:ww=true:=jN;exact .pure rfl ⟨.inl (by rw[jD]),.inl rfl,.inl (by rw[jG];rfl),.inl (by rw[jN]),trivial⟩)
       |(have jY:=vC.trans (if_neg (fun h=>by obtain⟨e1,e2,e3⟩:=QY.1 h;rw[qV]at e2 e3;omega))
         have hT:=Q2o h0 vy (fun h=>by obtain⟨e1,e2,e3⟩:=h;omega)
         rw[jY,hT]at jD jG jN;have jD:kd=11:=jD;have jG:tt=k+1:=by rw[jG];show(((k+1).toNat:Nat):Int)=_;omega
         have jN:ww=false:=jN;exact .pure rfl ⟨.inl (by rw[jD]),.inl rfl,.inl (by rw[jG];rfl),.inl (by rw[jN]),trivial⟩)
  ·have vI:=Q3H (l:=l) (base:=10) (i:=i) (by omega) (fun h=>absurd (by have:=hn.eq;omega) jA)
   have xi:i=a+N:=by omega
   clear hi vI;with_reducible refine cv2 (Q0 l) Q1t ?_
   have jB:=Q15 hn;with_reducible repeat' first|refine aU (zA jB <| zA jK <| zA h0 jA) ?_|refine zA ?_ ?_|intro hb
   all_goals
    rw[if_pos trivial];with_reducible refine cv2 (Q0 l) Q1t ?_
    have jv:(((Q0 l).length:Nat):Int)=n:=by have:=hn.eq;omega
    with_reducible repeat' first|refine aU (zA jv <| zA jK <| zA h0 <| zA ji <| zA jA vn) ?_|refine zA ?_ ?_|(intro hb;try simp[std,S1,jv,jK,h0,ji,jA,vn]at hb)
    all_goals
     have z9:=hn.eq;have kF:=hN.eq;have qV:a.toNat+Q27 l 10 a=i.toNat:=by omega
     have vy:=gd.eq
     first
      |(have hT:=vC.trans (if_pos (QY.2 ⟨by omega,by rw[qV];omega,by rw[qV];first|assumption|omega⟩))
        rw[hT]at jD jG jN;have jD:kd=3:=jD;have jG:tt=i+1:=by rw[jG];show((a.toNat+Q27 l 10 a+1:Nat):Int)=_;omega
        have jN:ww=true:=jN;exact .pure rfl ⟨.inl (by rw[jD]),.inl rfl,.inl (by rw[jG];rfl),.inl (by rw[jN]),trivial⟩)
      |(have jY:=vC.trans (if_neg (fun h=>by obtain⟨e1,e2,e3⟩:=QY.1 h;rw[qV]at e2 e3;omega))
        have hT:=Q3P h0 vy (by omega) (by omega) (by first|assumption|omega)
        rw[jY,hT]at jD jG jN;have jD:kd=2:=jD;have jG:tt=k+m+2:=by rw[jG];show(((k+m+2).toNat:Nat):Int)=_;omega
        have jN:ww=true:=jN;exact .pure rfl ⟨.inl (by rw[jD]),.inl rfl,.inl (by rw[jG];rfl),.inl (by rw[jN]),trivial⟩)
      |(have jY:=vC.trans (if_neg (fun h=>by obtain⟨e1,e2,e3⟩:=QY.1 h;rw[qV]at e2 e3;omega))
        have hT:=Q2o h0 vy (fun h=>by obtain⟨e1,e2,e3⟩:=h;omega)
        rw[jY,hT]at jD jG jN;have jD:kd=11:=jD;have jG:tt=k+1:=by rw[jG];show(((k+1).toNat:Nat):Int)=_;omega
        have jN:ww=false:=jN;exact .pure rfl ⟨.inl (by rw[jD]),.inl rfl,.inl (by rw[jG];rfl),.inl (by rw[jN]),trivial⟩)
