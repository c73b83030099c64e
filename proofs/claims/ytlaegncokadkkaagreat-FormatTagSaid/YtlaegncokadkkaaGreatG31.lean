/- Lemmas, conditions told -/
import Derived.Test.YtlaegncokadkkaaGreatG17
import Derived.Test.YtlaegncokadkkaaGreatG30
set_option maxRecDepth 99999
set_option maxHeartbeats 0
set_option linter.unusedSimpArgs false
set_option linter.unusedVariables false
namespace Go.Proofs.YtlaegncokadkkaaGreat
open List(length_append take_of_length_le mem_cons not_mem_nil length_cons length_map mem_map length_take getElem?_eq_getElem getElem_mem getElem?_map)
open Int(le_refl natCast_nonneg)
open Go.RowKit Go.Lib
section
open Tryz
def rtO:Nat->OT:=fun id=>match id with
 |12=>.then [0,1,2,3,4,5,6,7,9,10,11,12,13,14,15,16,17] (.fork (.of [8,18,19,20,21]) (.of [18,8,19,20,21]))
 |14=>.of [0,1,3,4,7,2,5,6,8,9,10]
 |17=>.of [0,1,2,3,4,5,6,7,8,9,10,11,12,16,17,13,14,15,18,19]
 |_=>.nil
def Qf0(C AT:List AV)(rk rf ru:Int)(rr re st:Bool)(VA:List AV->List AV)(EN:List AV)(J:List AV->List AV)(PA:Int->List AV)(BR:List AV)(FD:Int):Nat->List AV->List Ob->Option (AV×List Ob):=fun f args _=>match f,args with
 |19,[_]=>some (.agg C,[])
 |20,[_,_,_]=>some (.agg [.val (.int .i64 rk),.val (.int .i64 rf),.val (.int .i64 ru),.slc 9 AT,.val (.bool rr),.val (.bool re)],[])
 |21,[_,_,_]=>some (.val (.bool st),[])
 |24,[_,.slc 1 x]=>some (.slc 1 (VA x),[])
 |22,[_,_,_]=>some (.slc 1 EN,[])
 |23,[.slc 1 x]=>some (.row 0 0,[.row 21 1 false 0 (J x)])
 |26,[_,.val (.int .i64 d)]=>some (.slc 1 (PA d),[])
 |25,[_]=>some (.slc 1 BR,[])
 |27,[_]=>some (.val (.int .i64 FD),[])
 |_,_=>none
theorem QcP(c:Cf)(l:List Int)(hl:l.length<=200)(hu:Un l)(d:Int)(p:Bool)(h:(Qa l 0 l.length).right=false\/(Qa l 0 l.length).right=true/\Q7 l 0 [60,47]=true) :
  BCall prog 7 [c.av,.slc 1 (Q0 l),.val (.int .i64 d),.val (.bool p)] [] (.slc 1 (Q0 l)) []:=by
 have cC:=Q3f c;have jC:std.len (Q0 l)=l.length:=by show((Q0 l).length:Int)=_;rw[Q6]
 have cR:=Q93 l (by omega) hu 0 l.length (le_refl 0) (natCast_nonneg _) (le_refl _)
 have cS:=Q3C l (by omega) hu 0 (le_refl 0) (natCast_nonneg _) ⟨⟨[60,47]⟩⟩ (by decide)
 unfold Q6S at cR;rw[<-jC]at cR;change BCall _ _ _ _ (.val (.bool (Q7 l 0 [60,47]))) _ at cS;obtain⟨i,w,q,e,n,tabs,wrap⟩:=c;unfold Cf.clamp Cf.av at cC;unfold Cf.av;obtain⟨AT,vz⟩:=exq (Qj (Qa l 0 (std.len (Q0 l))).attrs);rw[<-vz]at cR;rw[<-jC]at h;generalize (Qa l 0 (std.len (Q0 l))).name.kind=rk at cR;generalize (Qa l 0 (std.len (Q0 l))).name.from_=rf at cR;generalize (Qa l 0 (std.len (Q0 l))).name.to=ru at cR;generalize (Qa l 0 (std.len (Q0 l))).right=rr at cR h;generalize (Qa l 0 (std.len (Q0 l))).empty=re at cR;generalize Q7 l 0 [60,47]=st at cS h;clear jC;refine fnO false (Qf0 [.val (.int .i64 (wI i 0 8)),.val (.int .i64 (wI w 20 200)),.val (.int .i64 (wI q 0 2)),.val (.int .i64 (wI e 0 3)),.val (.int .i64 (wI n 0 2)),.val (.bool tabs),.val (.bool wrap)] AT rk rf ru rr re st (fun _=>[]) [] (fun _=>[]) (fun _=>[]) [] 0) rtO func7 rfl fun _ _=>?_
 with_reducible refine cv2 wI (Q0 l) ?_
 refine⟨cC,cR,fun hb=>.pure rfl (.inl rfl),fun hr=>⟨cS,fun hs=>.pure rfl (.inl rfl),fun hs=>?_⟩⟩
 exfalso
 have hr:rr=true:=by
  cases rr with
  |true=>rfl
  |false=>cases hr
 rcases h with h|⟨_,h⟩
 ·rw[hr]at h;cases h
 ·rw[h]at hs;cases hs
theorem Qly(l:List (List Int))(hl:l.length<=1000)(hx:∀x∈l,x.length<=100000):BCall prog 23 [.slc 1 (Qd l)] [] (.row 0 0) [.row 21 1 false 0 (Q0 l.flatten)]:=by
 obtain⟨m,hm⟩:=QC l;have jC:std.len (Qd l)=m:=by show((Qd l).length:Int)=m;rw[Q2l,hm.eq]
 refine fnR 2 cs0 (fun _=>.nil) func23 rfl rfl fun _ _=>?_
 with_reducible refine cv1 (Qd l) ?_
 refine Q1p (cs0) (Int) (fun k=>⟨[(3,.row 0 0),(6,.slc 1 (Qd l)),(7,.val (.int .i64 m)),(8,.val (.int .i64 k))],[.row 21 1 false 0 (Q0 (l.take k.toNat).flatten)]⟩) (fun k=>0<=k/\k<=m) (fun k=>(m-k).toNat) 0 ?_ ?_ ?_
 ·exact⟨le_refl 0,by have:=hm.eq;omega⟩
 ·refine⟨[none],_,rfl,?_⟩
  have e1:Q0 (l.take (0:Int).toNat).flatten=[]:=rfl;rw[e1];exact eq1 (gI jC)
 ·rintro k ⟨jl,jR⟩
  have jl:0<=k:=jl;have jR:k<=m:=jR;have hB:=Q3W hl hx k.toNat;with_reducible refine cv2 (Qd l) (Q0 (l.take k.toNat).flatten) ?_
  refine⟨fun h=>?_,fun h=>?_⟩
  ·have h:k<m:=of_decide_eq_true h
   have hk:k<l.length:=by have:=hm.eq;omega
   have hw:=QbK jl hk;have gi:=Q3W hl hx (k+1).toNat;rw[Q2o jl hk]at gi;obtain⟨x,zi⟩:=exq (l[k.toNat]?.getD []);rw[<-zi]at hw gi;have hL:std.lst (std.nth (std.cel (std.at_ (Qd l) k)) 0)=Q0 x:=by rw[hw];rfl
   have eX:std.app (Q0 (l.take k.toNat).flatten) (std.lst (std.nth (std.cel (std.at_ (Qd l) k)) 0))=Q0 (l.take (k+1).toNat).flatten:=by
    rw[hL,Q2o jl hk,<-zi,List.flatten_append,Qy];show _++Q0 x=_++Q0 [x].flatten;simp
   refine⟨?_,(show(std.all [std.hasL 1 (std.nth (std.cel (std.at_ (Qd l) k)) 0)]).q from⟨by rw[hw];exact .inl rfl,trivial⟩),?_,?_,k+1,⟨by omega,by omega⟩,by omega,[some 0],_,rfl,?_⟩
   ·show 0<=k/\k<std.len (Qd l)
    rw[jC];omega
   ·show(Q0 (l.take k.toNat).flatten).length+(std.lst (std.nth (std.cel (std.at_ (Qd l) k)) 0)).length<=1000000000
    rw[hL,Q6,Q6];rw[List.flatten_append,length_append]at gi;simp at gi;simp
    omega
   ·show(-9223372036854775808:Int)<=k+1/\k+1<=(9223372036854775807:Int)
    have:=hm.eq;omega
   ·exact eq1 eX
  ·have h:¬k<m:=of_decide_eq_false h
   rw[if_pos trivial,show l.take k.toNat=l from take_of_length_le (by have:=hm.eq;omega)]
   with_reducible refine cv2 (Qd l) (Q0 l.flatten) ?_
   refine⟨[some 0],_,_,rfl,rfl,Nat.zero_le _,rfl,?_,Q9F rfl⟩;exact eq0
def jA(x:List AV):List AV:=Q0 (x.map rwA).flatten
theorem QaF(l:List (List Int)):jA (Qd l)=Q0 l.flatten:=by
 have h1:(Qd l).map rwA=l:=by
  rw[Qd,List.map_map];conv=>rhs;rw[<-List.map_id l]
  exact List.map_congr_left fun x _=>QbD x
 rw[jA,h1]
theorem QbA(l:List (List Int))(hl:l.length<=1000)(hx:∀x∈l,x.length<=100000):BCall prog 23 [.slc 1 (Qd l)] [] (.row 0 0) [.row 21 1 false 0 (jA (Qd l))]:=by
 rw[QaF];exact Qly l hl hx
theorem Q9O(name:List Int)(l:List (List Int))(x:List Int):Q2J name (l++[x])=Q2J name l++[[32],x]:=by simp[Q2J]
theorem Q8q(name:List Int)(l:List (List Int))(b p x:List Int):Q13 name (l++[x]) b p=Q13 name l b p++[b,p,x]:=by simp[Q13]
theorem Qc4{name:List Int}{l:List (List Int)}{n:Nat}(hn:name.length<=n)(h1:1<=n)(hl:∀x∈l,x.length<=n):∀x∈Q2J name l,x.length<=n:=fun x hx=>by
 simp only[Q2J,mem_cons,List.mem_flatMap,not_mem_nil,or_false]at hx;rcases hx with rfl|rfl|⟨y,hy,rfl|rfl⟩
 ·exact h1
 ·exact hn
 ·exact h1
 ·exact hl _ hy
theorem Qag{name b p:List Int}{l:List (List Int)}{n:Nat}(hn:name.length<=n)(h1:1<=n)(hb:b.length<=n)(hp:p.length<=n)(hl:∀x∈l,x.length<=n):∀x∈Q13 name l b p,x.length<=n:=fun x hx=>by
 simp only[Q13,mem_cons,List.mem_flatMap,not_mem_nil,or_false]at hx;rcases hx with rfl|rfl|⟨y,hy,rfl|rfl|rfl⟩
 ·exact h1
 ·exact hn
 ·exact hb
 ·exact hp
 ·exact hl _ hy
theorem Q50(name:List Int):∀l:List (List Int),(Q2J name l).length=2 * l.length+2
 | []=>rfl
 |x::r=>by
  have ih:=Q50 name r;simp only[Q2J,List.flatMap_cons,length_cons,length_append]at ih ⊢;simp only[List.length_nil];omega
theorem Q4f(name b p:List Int):∀l:List (List Int),(Q13 name l b p).length=3 * l.length+2
 | []=>rfl
 |x::r=>by
  have ih:=Q4f name b p r;simp only[Q13,List.flatMap_cons,length_cons,length_append]at ih ⊢;simp only[List.length_nil];omega
theorem Qk0(c:Cf)(l:List Int)(hl:l.length<=200)(hu:Un l)(d:Int)(hd:-9223372036854775808<=d)(p:Bool)(h0:(Qa l 0 l.length).empty=true)(h1:(Qa l 0 l.length).right=true)(h2:Q7 l 0 [60,47]=false) :
  BCall prog 7 [c.av,.slc 1 (Q0 l),.val (.int .i64 d),.val (.bool p)] [] (.slc 1 (Q0 (Q3j c l d p))) []:=by
 have cC:=Q3f c;have jC:std.len (Q0 l)=l.length:=by show((Q0 l).length:Int)=_;rw[Q6]
 have cR:=Q93 l (by omega) hu 0 l.length (le_refl 0) (natCast_nonneg _) (le_refl _)
 have cS:=Q3C l (by omega) hu 0 (le_refl 0) (natCast_nonneg _) ⟨⟨[60,47]⟩⟩ (by decide)
 change BCall _ _ _ _ (.val (.bool (Q7 l 0 [60,47]))) _ at cS;unfold Q6S at cR;obtain⟨je,yj⟩:=Q8Y l;have qi:=Q7p l 0 l.length (le_refl 0) (natCast_nonneg _) (le_refl _);have zm:=Q48 (n:=c.e) (lo:=0) (hi:=3) (by decide)
 have vL:=Q48 (n:=c.n) (lo:=0) (hi:=2) (by decide)
 have eT:Q3j c l d p=if c.clamp.wrap=true/\0<((Qa l 0 l.length).attrs.map (Q1q c.clamp l)).length/\((QF (cutL l (Qa l 0 l.length).name.from_ (Qa l 0 l.length).name.to) ((Qa l 0 l.length).attrs.map (Q1q c.clamp l)) [32] (Q2j c.clamp (cutL l (Qa l 0 l.length).name.from_ (Qa l 0 l.length).name.to) ((Qa l 0 l.length).empty||(p&&decide (0<c.clamp.e))))).length:Int)+(QL c.clamp d).length > c.clamp.w then QF (cutL l (Qa l 0 l.length).name.from_ (Qa l 0 l.length).name.to) ((Qa l 0 l.length).attrs.map (Q1q c.clamp l)) (QY c.clamp++QL c.clamp (QP d)) (Q2j c.clamp (cutL l (Qa l 0 l.length).name.from_ (Qa l 0 l.length).name.to) ((Qa l 0 l.length).empty||(p&&decide (0<c.clamp.e))))else QF (cutL l (Qa l 0 l.length).name.from_ (Qa l 0 l.length).name.to) ((Qa l 0 l.length).attrs.map (Q1q c.clamp l)) [32] (Q2j c.clamp (cutL l (Qa l 0 l.length).name.from_ (Qa l 0 l.length).name.to) ((Qa l 0 l.length).empty||(p&&decide (0<c.clamp.e)))):=by
  unfold Q3j;simp only[h1,h2,Bool.false_eq_true,Bool.true_eq_false,or_self,if_false]
 rw[eT];clear eT;have ya:0<=c.clamp.e:=zm.1;have yw:0<=c.clamp.n/\c.clamp.n<=2:=vL;rw[h1,h0]at cR;rw[h0];rw[h2]at cS;generalize c.clamp=k at *;obtain⟨at',jW⟩:=exq ((Qa l 0 l.length).attrs);rw[<-jW]at cR je yj ⊢;clear jW;generalize (Qa l 0 l.length).name.kind=rk at *;generalize (Qa l 0 l.length).name.from_=rf at *;generalize (Qa l 0 l.length).name.to=ru at *;clear h0 h1 h2 zm vL;obtain⟨m,hm⟩:=QC at';have qo:std.len (Qj at')=m:=by show((Qj at').length:Int)=m;rw[Q1X,hm.eq]
 obtain⟨name,jc⟩:=exq (cutL l rf ru);have gf:name.length<=200:=by rw[jc];have:=QT l rf ru;omega
 have jH:std.cut (Q0 l) rf ru=Q0 name:=by rw[jc,Q1I]
 rw[<-jc];have cE:=QeW k name (by omega) (true||(p&&decide (0<k.e)))
 obtain⟨e,he⟩:=exq (Q2j k name (true||(p&&decide (0<k.e))))
 have j5:e.length<=204:=by rw[he];have:=Q6r k name (true||(p&&decide (0<k.e)));omega
 rw[<-he]at cE ⊢;obtain⟨ats,jN⟩:=exq (at'.map (Q1q k l));have jT:ats.length<=201:=by rw[jN,length_map];omega
 have yI:∀x∈ats,x.length<=1403:=fun x hx=>by
  rw[jN]at hx;obtain⟨a,_,rfl⟩:=mem_map.1 hx;have:=Q7m k l a
  omega
 rw[<-jN];have jw:=Q7u k;have jV:=Q7N k;have cP:∀x,BCall prog 26 [k.av,.val (.int .i64 x)] [] (.slc 1 (paA k x)) []:=fun x=>QeE k x
 have cB:=Qam k;have cD:=Q8l d hd
 have cV:∀x∈at',BCall prog 24 [k.av,.slc 1 (std.cut (Q0 l) x.value.from_ x.value.to)] [] (.slc 1 (Q5v k (std.cut (Q0 l) x.value.from_ x.value.to))) []:=fun x hx=>by
  rw[Q1I,Q4j];exact Qad k _ (by have:=QT l x.value.from_ x.value.to;omega)
 have cX:∀x∈at',BCall prog 23 [.slc 1 [.slc 1 (std.cut (Q0 l) x.name.from_ x.name.to),.slc 1 [.val (.int .i32 61)],.slc 1 (Q5v k (std.cut (Q0 l) x.value.from_ x.value.to))]] [] (.row 0 0) [.row 21 1 false 0 (jA [.slc 1 (std.cut (Q0 l) x.name.from_ x.name.to),.slc 1 [.val (.int .i32 61)],.slc 1 (Q5v k (std.cut (Q0 l) x.value.from_ x.value.to))])]:=fun x hx=>by
  rw[Q1I,Q1I,Q4j];refine QbA [cutL l x.name.from_ x.name.to,[61],Q4k k (cutL l x.value.from_ x.value.to)] (by simp) fun y hy=>?_
  simp only[mem_cons,not_mem_nil,or_false]at hy;have g1:=QT l x.name.from_ x.name.to;have g2:=QT l x.value.from_ x.value.to;have g3:=Q5Z k (cutL l x.value.from_ x.value.to);rcases hy with rfl|rfl|rfl
  ·omega
  ·simp
  ·omega
 have jX:∀x:TAttr,jA [.slc 1 (std.cut (Q0 l) x.name.from_ x.name.to),.slc 1 [.val (.int .i32 61)],.slc 1 (Q5v k (std.cut (Q0 l) x.value.from_ x.value.to))]=Q0 (Q1q k l x):=fun x=>by
  rw[Q1I,Q1I,Q4j];have:=QaF [cutL l x.name.from_ x.name.to,[61],Q4k k (cutL l x.value.from_ x.value.to)]
  rw[show [cutL l x.name.from_ x.name.to,[61],Q4k k (cutL l x.value.from_ x.value.to)].flatten=Q1q k l x by simp[Q1q]]at this
  exact this
 have cJ1:=QbA (Q2J name ats) (by rw[Q50];omega) (Qc4 (n:=100000) (by omega) (by decide) fun x hx=>by have:=yI x hx;omega)
 have cJ2:=QbA (Q13 name ats (QY k) (QL k (QP d))) (by rw[Q4f];omega) (Qag (n:=100000) (by omega) (by decide) (by omega) (by have:=jw (QP d);omega) fun x hx=>by have:=yI x hx;omega)
 have j1:jA (Qd (Q2J name ats))++Q0 e=Q0 (QF name ats [32] e):=by rw[QaF,<-Qy,Qa0]
 have j2:jA (Qd (Q13 name ats (QY k) (QL k (QP d))))++Q0 e=Q0 (QF name ats (QY k++QL k (QP d)) e):=by rw[QaF,<-Qy,Q7Y]
 have vY:(QF name ats [32] e).length<=300000:=by
  have h:=Q2b ([32]++·) 1404 ats fun x h=>by
   have:=yI x h
   rw[length_append,List.length_singleton];omega
  have h3:1404 * ats.length<=1404 * 201:=Nat.mul_le_mul_left _ jT;rw[QF,length_append,length_append,length_cons];omega
 have pB:(QF name ats (QY k++QL k (QP d)) e).length<=700000:=by
  have h:=Q2b (QY k++QL k (QP d)++·) 3100 ats fun x h=>by
   have:=yI x h
   have:=jw (QP d)
   rw[length_append,length_append];omega
  have h3:3100 * ats.length<=3100 * 201:=Nat.mul_le_mul_left _ jT;rw[QF,length_append,length_append,length_cons];omega
 have kl:(std.cutok rf ru (std.len (Q0 l))).q:=by
  show 0<=rf/\rf<=ru/\ru<=std.len (Q0 l);rw[jC];exact qi
 rw[<-jC]at cR;have qI:∀x,(paA k x).length=(QL k x).length:=fun x=>Q6 _
 have pC:∀x∈at',(std.cutok x.name.from_ x.name.to (std.len (Q0 l))).q/\(std.cutok x.value.from_ x.value.to (std.len (Q0 l))).q:=fun x hx=>by
  obtain⟨g1,g2⟩:=je x hx;show(0<=x.name.from_/\x.name.from_<=x.name.to/\x.name.to<=std.len (Q0 l))/\(0<=x.value.from_/\x.value.from_<=x.value.to/\x.value.to<=std.len (Q0 l))
  rw[jC];exact⟨⟨g1.a,g1.b,g1.c⟩,g2.a,g2.b,g2.c⟩
 have mb:∀L:List (List Int),Qd (Q13 name L (QY k) (QL k (QP d)))=Qd (Q13 name L (QY k) (QL k (QP d))):=fun _=>rfl
 have ms:∀(L:List (List Int)) (x:List Int),Qd (Q13 name (L++[x]) (QY k) (QL k (QP d)))=Qd (Q13 name L (QY k) (QL k (QP d)))++[.slc 1 (Q0 (QY k)),.slc 1 (paA k (QP d)),.slc 1 (Q0 x)]:=fun L x=>by rw[Q8q,Q44];rfl
 have ml:∀L:List (List Int),(Qd (Q13 name L (QY k) (QL k (QP d)))).length=3 * L.length+2:=fun L=>by rw[Q2l,Q4f]
 have m0:Qd (Q13 name [] (QY k) (QL k (QP d)))=[.slc 1 [.val (.int .i32 60)],.slc 1 (Q0 name)]:=rfl;obtain⟨MF,cg⟩:=exq (fun L=>Qd (Q13 name L (QY k) (QL k (QP d))):List (List Int)->List AV)
 have yT:∀L,Qd (Q13 name L (QY k) (QL k (QP d)))=MF L:=fun L=>by rw[cg]
 simp only[yT]at cJ2 j2 ms ml m0;clear mb yT cg;obtain⟨OF,ch⟩:=exq (fun L=>Qd (Q2J name L):List (List Int)->List AV)
 have os:∀(L:List (List Int)) (x:List Int),Qd (Q2J name (L++[x]))=Qd (Q2J name L)++[.slc 1 [.val (.int .i32 32)],.slc 1 (Q0 x)]:=fun L x=>by rw[Q9O,Q44];rfl
 have ol:∀L:List (List Int),(Qd (Q2J name L)).length=2 * L.length+2:=fun L=>by rw[Q2l,Q50]
 have o0:Qd (Q2J name [])=[.slc 1 [.val (.int .i32 60)],.slc 1 (Q0 name)]:=rfl;have yU:∀L,Qd (Q2J name L)=OF L:=fun L=>by rw[ch]
 simp only[yU]at cJ1 j1 os ol o0;clear yU ch
 have zv:(jA (OF ats)).length<=300000:=by
  have:=congrArg List.length j1
  rw[length_append,Q6,Q6]at this;omega
 have zw:(jA (MF ats)).length<=700000:=by
  have:=congrArg List.length j2
  rw[length_append,Q6,Q6]at this;omega
 have pD:(Q0 e).length<=204:=by rw[Q6];exact j5
 obtain⟨VA,zk⟩:=exq (Q5v k);obtain⟨J,hJ⟩:=exq jA;obtain⟨PA,zP⟩:=exq (paA k);obtain⟨BR,zQ⟩:=exq (Q0 (QY k));obtain⟨EN,zn⟩:=exq (Q0 e);obtain⟨FD,ci⟩:=exq (QP d);simp only[<-zk,<-hJ,<-zP,<-zQ,<-zn,<-ci]at cV cX jX cJ1 cJ2 cP cB cD cE j1 j2 qI ms zv zw pD;obtain⟨i2,w2,q2,e2',n2,t2,u2⟩:=k;obtain⟨i,w,q,e',n,tabs,wrap⟩:=c;unfold Cf.av at cC cV cE cP cB ⊢;obtain⟨AT,vz⟩:=exq (Qj at');rw[<-vz]at cR qo;have yk:∀{j:Int},0<=j->j<at'.length->std.cel (std.at_ AT j)=(at'[j.toNat]?.getD tattr0).cs:=fun h0 h1=>by rw[vz];exact Q7z h0 h1
 clear zk hJ zP zQ zn vz he jc je;refine fnO false (Qf0 [.val (.int .i64 i2),.val (.int .i64 w2),.val (.int .i64 q2),.val (.int .i64 e2'),.val (.int .i64 n2),.val (.bool t2),.val (.bool u2)] AT rk rf ru true true false VA EN J PA BR FD) rtO func7 rfl fun _ _=>?_
 with_reducible refine cv1 (Q0 l) ?_
 rw[<-jH]at cE;refine⟨cC,cR,fun hb=>absurd hb (by decide),fun _=>⟨cS,kl,cE,?_⟩⟩
 refine Qgj (Qf0 [.val (.int .i64 i2),.val (.int .i64 w2),.val (.int .i64 q2),.val (.int .i64 e2'),.val (.int .i64 n2),.val (.bool t2),.val (.bool u2)] AT rk rf ru true true false VA EN J PA BR FD) (fun id=>match id with|12=> rtO 12|14=> rtO 14|17=> rtO 17|_=>.nil) (Int) (fun j=>⟨[(1,.slc 1 (Q0 l)),(2,.val (.int .i64 d)),(4,.box 0 0),(9,.box 1 0),(11,.slc 1 EN),(12,.row 2 0),(13,.row 3 0),(60,.slc 9 AT),(61,.val (.int .i64 m)),(62,.val (.int .i64 j))],[.box [.val (.int .i64 i2),.val (.int .i64 w2),.val (.int .i64 q2),.val (.int .i64 e2'),.val (.int .i64 n2),.val (.bool t2),.val (.bool u2)],.box [.val (.int .i64 rk),.val (.int .i64 rf),.val (.int .i64 ru),.slc 9 AT,.val (.bool true),.val (.bool true)],.row 24 1 false 0 (OF (ats.take j.toNat)),.row 24 1 false 0 (MF (ats.take j.toNat))]⟩) (fun j=>0<=j/\j<=m) (fun j=>(m-j).toNat) 0 ?_ ?_ ?_
 ·exact⟨le_refl 0,by have:=hm.eq;omega⟩
 ·refine⟨[some 0,some 1,some 3,some 5],_,rfl,?_⟩
  have e1:([.slc 1 [.val (.int .i32 60)],.slc 1 (std.cut (Q0 l) rf ru)]:List AV)=OF (ats.take (0:Int).toNat):=by rw[jH];exact o0.symm
  have e2:([.slc 1 [.val (.int .i32 60)],.slc 1 (std.cut (Q0 l) rf ru)]:List AV)=MF (ats.take (0:Int).toNat):=by rw[jH];exact m0.symm
  exact eq3 (gI qo) (gA e1) (gA e2)
 ·rintro j ⟨yA,vO⟩
  have yA:0<=j:=yA;have vO:j<=m:=vO;have jP:=ol (ats.take j.toNat);have pE:=ml (ats.take j.toNat);have hH:(ats.take j.toNat).length<=201:=by rw[length_take];omega
  with_reducible refine cv3 (Q0 l) (OF (ats.take j.toNat)) (MF (ats.take j.toNat)) ?_
  refine⟨fun h=>?_,fun h=>?_⟩
  ·have h:j<m:=of_decide_eq_true h
   have vM:j<at'.length:=by have:=hm.eq;omega
   have hX:=yk yA vM
   have zG:at'[j.toNat]?.getD tattr0∈at':=by
    rw[getElem?_eq_getElem (by omega)]
    exact getElem_mem _
   have jY:ats[j.toNat]?.getD []=Q1q ⟨i2,w2,q2,e2',n2,t2,u2⟩ l (at'[j.toNat]?.getD tattr0):=by
    rw[jN,getElem?_map,getElem?_eq_getElem (by omega)];rfl
   have zW:j<ats.length:=by rw[jN,length_map];exact vM
   have zo:=Q2o yA zW;rw[jY]at zo;have cVx:=cV _ zG;have cXx:=cX _ zG;have jXx:=jX (at'[j.toNat]?.getD tattr0);have zx:=pC _ zG;generalize at'[j.toNat]?.getD tattr0=x at *;have pF:std.int (std.nth (std.cel (std.at_ AT j)) 1)=x.name.from_:=by rw[hX];rfl
   have pG:std.int (std.nth (std.cel (std.at_ AT j)) 2)=x.name.to:=by rw[hX];rfl
   have cj:std.int (std.nth (std.cel (std.at_ AT j)) 4)=x.value.from_:=by rw[hX];rfl
   have ck:std.int (std.nth (std.cel (std.at_ AT j)) 5)=x.value.to:=by rw[hX];rfl
   rw[<-pF,<-pG,<-cj,<-ck]at zx cXx jXx;rw[<-cj,<-ck]at cVx
   have zy:(std.inb j (std.len AT)).q:=by
    show 0<=j/\j<std.len AT;rw[qo];omega
   have vg:(std.all [std.hasI .i64 (std.nth (std.cel (std.at_ AT j)) 0),std.hasI .i64 (std.nth (std.cel (std.at_ AT j)) 1),std.hasI .i64 (std.nth (std.cel (std.at_ AT j)) 2),std.hasI .i64 (std.nth (std.cel (std.at_ AT j)) 3),std.hasI .i64 (std.nth (std.cel (std.at_ AT j)) 4),std.hasI .i64 (std.nth (std.cel (std.at_ AT j)) 5),std.hasI .i64 (std.nth (std.cel (std.at_ AT j)) 6),std.hasI .i64 (std.nth (std.cel (std.at_ AT j)) 7),std.hasI .i64 (std.nth (std.cel (std.at_ AT j)) 8)]).q:=by
    rw[hX];exact⟨rfl,rfl,rfl,rfl,rfl,rfl,rfl,rfl,rfl,trivial⟩
   have cl:(std.inR .i64 (std.add j 1)).q:=by
    show(-9223372036854775808:Int)<=j+1/\j+1<=(9223372036854775807:Int)
    have:=hm.eq;omega
   have j9:∀a b:AV,(std.bnd (OF (ats.take j.toNat)) [a,b]).q:=fun a b=>by
    show(OF (ats.take j.toNat)).length+2<=1000000000
    omega
   have jU:∀a b c:AV,(std.bnd (MF (ats.take j.toNat)) [a,b,c]).q:=fun a b c=>by
    show(MF (ats.take j.toNat)).length+3<=1000000000
    omega
   have e1:=os (ats.take j.toNat) (Q1q ⟨i2,w2,q2,e2',n2,t2,u2⟩ l x);have e2:=ms (ats.take j.toNat) (Q1q ⟨i2,w2,q2,e2',n2,t2,u2⟩ l x);rw[<-zo,<-jXx]at e1 e2;have e1:=e1.symm;have e2:=e2.symm;have fin:∀{P:Prop},(P↔P)->True:=fun _=>trivial
   refine⟨zy,vg,zx.1,zx.2,⟨cVx,cXx,j9 _ _,cB,cD,cP _,jU _ _ _,cl,j+1,⟨by omega,by omega⟩,by omega,[some 0,some 1,some 2,some 3],_,rfl,?_⟩,cVx,cXx,j9 _ _,cB,cD,cP _,jU _ _ _,cl,j+1,⟨by omega,by omega⟩,by omega,[some 0,some 1,some 2,some 3],_,rfl,?_⟩
   all_goals
    exact eq2 (gA e1) (gA e2)
  ·have h:¬j<m:=of_decide_eq_false h
   rw[if_pos trivial];rw[show ats.take j.toNat=ats from take_of_length_le (by rw[jN,length_map];have:=hm.eq;omega)]
   with_reducible refine cv3 (Q0 l) (OF ats) (MF ats) ?_
   rw[ci]at j2
   have zp:std.len (std.app (J (OF ats)) EN)=((QF name ats [32] e).length:Int):=by
    show((J (OF ats)++EN).length:Int)=_
    rw[j1,Q6]
   have zq:std.len (PA d)=((QL ⟨i2,w2,q2,e2',n2,t2,u2⟩ d).length:Int):=by
    show((PA d).length:Int)=_
    rw[qI]
   have hpd:=jw d;have fin1:AV.slc 1 (std.app (J (OF ats)) EN)=.slc 1 (Q0 (QF name ats [32] e)):=congrArg _ j1;have fin2:AV.slc 1 (std.app (J (MF ats)) EN)=.slc 1 (Q0 (QF name ats (QY ⟨i2,w2,q2,e2',n2,t2,u2⟩++QL ⟨i2,w2,q2,e2',n2,t2,u2⟩ (QP d)) e)):=congrArg _ j2
   have yq:∀b,std.ltI w2 (std.add (std.len (std.app (J (OF ats)) EN)) (std.len (PA d)))=b->decide (w2<((QF name ats [32] e).length:Int)+(QL ⟨i2,w2,q2,e2',n2,t2,u2⟩ d).length)=b:=fun b hb=>by
    have hb:decide (w2<std.len (std.app (J (OF ats)) EN)+std.len (PA d))=b:=hb;rw[zp,zq]at hb;exact hb
   have zr:∀b,std.ltI 0 (std.len AT)=b->decide (0<ats.length)=b:=fun b hb=>by
    have hb:decide (0<std.len AT)=b:=hb;rw[qo]at hb;rw[<-hb];refine decide_eq_decide.2 ?_;rw[jN,length_map];have:=hm.eq;omega
   refine⟨cJ1,?_,fun hu=>⟨fun hp=>⟨cP d,?_,fun hw=>⟨cJ2,?_,.pure rfl (.inl ?_)⟩,fun hw=>.pure rfl (.inl ?_)⟩,fun hp=>.pure rfl (.inl ?_)⟩,fun hu=>.pure rfl (.inl ?_)⟩
   ·show(J (OF ats)).length+EN.length<=1000000000
    omega
   ·show(-9223372036854775808:Int)<=std.len (std.app (J (OF ats)) EN)+std.len (PA d)/\std.len (std.app (J (OF ats)) EN)+std.len (PA d)<=9223372036854775807
    rw[zp,zq];omega
   ·show(J (MF ats)).length+EN.length<=1000000000
    omega
   ·rw[fin2,if_pos ⟨hu,of_decide_eq_true (zr _ hp),of_decide_eq_true (yq _ hw)⟩]
   ·rw[fin1,if_neg fun hx=>of_decide_eq_false (yq _ hw) hx.2.2]
   ·rw[fin1,if_neg fun hx=>of_decide_eq_false (zr _ hp) hx.2.1]
   ·rw[fin1,if_neg fun hx=>Bool.false_ne_true (hu.symm.trans hx.1)]
theorem Qk2(c:Cf)(l:List Int)(hl:l.length<=200)(hu:Un l)(d:Int)(hd:-9223372036854775808<=d)(h0:(Qa l 0 l.length).empty=false)(h1:(Qa l 0 l.length).right=true)(h2:Q7 l 0 [60,47]=false) :
  BCall prog 7 [c.av,.slc 1 (Q0 l),.val (.int .i64 d),.val (.bool true)] [] (.slc 1 (Q0 (Q3j c l d true))) []:=by
 have cC:=Q3f c;have jC:std.len (Q0 l)=l.length:=by show((Q0 l).length:Int)=_;rw[Q6]
 have cR:=Q93 l (by omega) hu 0 l.length (le_refl 0) (natCast_nonneg _) (le_refl _)
 have cS:=Q3C l (by omega) hu 0 (le_refl 0) (natCast_nonneg _) ⟨⟨[60,47]⟩⟩ (by decide)
 change BCall _ _ _ _ (.val (.bool (Q7 l 0 [60,47]))) _ at cS;unfold Q6S at cR;obtain⟨je,yj⟩:=Q8Y l;have qi:=Q7p l 0 l.length (le_refl 0) (natCast_nonneg _) (le_refl _);have zm:=Q48 (n:=c.e) (lo:=0) (hi:=3) (by decide)
 have vL:=Q48 (n:=c.n) (lo:=0) (hi:=2) (by decide)
 have eT:Q3j c l d true=if c.clamp.wrap=true/\0<((Qa l 0 l.length).attrs.map (Q1q c.clamp l)).length/\((QF (cutL l (Qa l 0 l.length).name.from_ (Qa l 0 l.length).name.to) ((Qa l 0 l.length).attrs.map (Q1q c.clamp l)) [32] (Q2j c.clamp (cutL l (Qa l 0 l.length).name.from_ (Qa l 0 l.length).name.to) ((Qa l 0 l.length).empty||(true&&decide (0<c.clamp.e))))).length:Int)+(QL c.clamp d).length > c.clamp.w then QF (cutL l (Qa l 0 l.length).name.from_ (Qa l 0 l.length).name.to) ((Qa l 0 l.length).attrs.map (Q1q c.clamp l)) (QY c.clamp++QL c.clamp (QP d)) (Q2j c.clamp (cutL l (Qa l 0 l.length).name.from_ (Qa l 0 l.length).name.to) ((Qa l 0 l.length).empty||(true&&decide (0<c.clamp.e))))else QF (cutL l (Qa l 0 l.length).name.from_ (Qa l 0 l.length).name.to) ((Qa l 0 l.length).attrs.map (Q1q c.clamp l)) [32] (Q2j c.clamp (cutL l (Qa l 0 l.length).name.from_ (Qa l 0 l.length).name.to) ((Qa l 0 l.length).empty||(true&&decide (0<c.clamp.e)))):=by
  unfold Q3j;simp only[h1,h2,Bool.false_eq_true,Bool.true_eq_false,or_self,if_false]
 rw[eT];clear eT;have ya:0<=c.clamp.e:=zm.1;have yw:0<=c.clamp.n/\c.clamp.n<=2:=vL;rw[h1,h0]at cR;rw[h0];rw[h2]at cS;generalize c.clamp=k at *;obtain⟨at',jW⟩:=exq ((Qa l 0 l.length).attrs);rw[<-jW]at cR je yj ⊢;clear jW;generalize (Qa l 0 l.length).name.kind=rk at *;generalize (Qa l 0 l.length).name.from_=rf at *;generalize (Qa l 0 l.length).name.to=ru at *;clear h0 h1 h2 zm vL;obtain⟨m,hm⟩:=QC at';have qo:std.len (Qj at')=m:=by show((Qj at').length:Int)=m;rw[Q1X,hm.eq]
 obtain⟨name,jc⟩:=exq (cutL l rf ru);have gf:name.length<=200:=by rw[jc];have:=QT l rf ru;omega
 have jH:std.cut (Q0 l) rf ru=Q0 name:=by rw[jc,Q1I]
 rw[<-jc];have cE:=QeW k name (by omega) (false||(true&&decide (0<k.e)))
 obtain⟨e,he⟩:=exq (Q2j k name (false||(true&&decide (0<k.e))))
 have j5:e.length<=204:=by rw[he];have:=Q6r k name (false||(true&&decide (0<k.e)));omega
 rw[<-he]at cE ⊢;obtain⟨ats,jN⟩:=exq (at'.map (Q1q k l));have jT:ats.length<=201:=by rw[jN,length_map];omega
 have yI:∀x∈ats,x.length<=1403:=fun x hx=>by
  rw[jN]at hx;obtain⟨a,_,rfl⟩:=mem_map.1 hx;have:=Q7m k l a
  omega
 rw[<-jN];have jw:=Q7u k;have jV:=Q7N k;have cP:∀x,BCall prog 26 [k.av,.val (.int .i64 x)] [] (.slc 1 (paA k x)) []:=fun x=>QeE k x
 have cB:=Qam k;have cD:=Q8l d hd
 have cV:∀x∈at',BCall prog 24 [k.av,.slc 1 (std.cut (Q0 l) x.value.from_ x.value.to)] [] (.slc 1 (Q5v k (std.cut (Q0 l) x.value.from_ x.value.to))) []:=fun x hx=>by
  rw[Q1I,Q4j];exact Qad k _ (by have:=QT l x.value.from_ x.value.to;omega)
 have cX:∀x∈at',BCall prog 23 [.slc 1 [.slc 1 (std.cut (Q0 l) x.name.from_ x.name.to),.slc 1 [.val (.int .i32 61)],.slc 1 (Q5v k (std.cut (Q0 l) x.value.from_ x.value.to))]] [] (.row 0 0) [.row 21 1 false 0 (jA [.slc 1 (std.cut (Q0 l) x.name.from_ x.name.to),.slc 1 [.val (.int .i32 61)],.slc 1 (Q5v k (std.cut (Q0 l) x.value.from_ x.value.to))])]:=fun x hx=>by
  rw[Q1I,Q1I,Q4j];refine QbA [cutL l x.name.from_ x.name.to,[61],Q4k k (cutL l x.value.from_ x.value.to)] (by simp) fun y hy=>?_
  simp only[mem_cons,not_mem_nil,or_false]at hy;have g1:=QT l x.name.from_ x.name.to;have g2:=QT l x.value.from_ x.value.to;have g3:=Q5Z k (cutL l x.value.from_ x.value.to);rcases hy with rfl|rfl|rfl
  ·omega
  ·simp
  ·omega
 have jX:∀x:TAttr,jA [.slc 1 (std.cut (Q0 l) x.name.from_ x.name.to),.slc 1 [.val (.int .i32 61)],.slc 1 (Q5v k (std.cut (Q0 l) x.value.from_ x.value.to))]=Q0 (Q1q k l x):=fun x=>by
  rw[Q1I,Q1I,Q4j];have:=QaF [cutL l x.name.from_ x.name.to,[61],Q4k k (cutL l x.value.from_ x.value.to)]
  rw[show [cutL l x.name.from_ x.name.to,[61],Q4k k (cutL l x.value.from_ x.value.to)].flatten=Q1q k l x by simp[Q1q]]at this
  exact this
 have cJ1:=QbA (Q2J name ats) (by rw[Q50];omega) (Qc4 (n:=100000) (by omega) (by decide) fun x hx=>by have:=yI x hx;omega)
 have cJ2:=QbA (Q13 name ats (QY k) (QL k (QP d))) (by rw[Q4f];omega) (Qag (n:=100000) (by omega) (by decide) (by omega) (by have:=jw (QP d);omega) fun x hx=>by have:=yI x hx;omega)
 have j1:jA (Qd (Q2J name ats))++Q0 e=Q0 (QF name ats [32] e):=by rw[QaF,<-Qy,Qa0]
 have j2:jA (Qd (Q13 name ats (QY k) (QL k (QP d))))++Q0 e=Q0 (QF name ats (QY k++QL k (QP d)) e):=by rw[QaF,<-Qy,Q7Y]
 have vY:(QF name ats [32] e).length<=300000:=by
  have h:=Q2b ([32]++·) 1404 ats fun x h=>by
   have:=yI x h
   rw[length_append,List.length_singleton];omega
  have h3:1404 * ats.length<=1404 * 201:=Nat.mul_le_mul_left _ jT;rw[QF,length_append,length_append,length_cons];omega
 have pB:(QF name ats (QY k++QL k (QP d)) e).length<=700000:=by
  have h:=Q2b (QY k++QL k (QP d)++·) 3100 ats fun x h=>by
   have:=yI x h
   have:=jw (QP d)
   rw[length_append,length_append];omega
  have h3:3100 * ats.length<=3100 * 201:=Nat.mul_le_mul_left _ jT;rw[QF,length_append,length_append,length_cons];omega
 have kl:(std.cutok rf ru (std.len (Q0 l))).q:=by
  show 0<=rf/\rf<=ru/\ru<=std.len (Q0 l);rw[jC];exact qi
 rw[<-jC]at cR;have qI:∀x,(paA k x).length=(QL k x).length:=fun x=>Q6 _
 have pC:∀x∈at',(std.cutok x.name.from_ x.name.to (std.len (Q0 l))).q/\(std.cutok x.value.from_ x.value.to (std.len (Q0 l))).q:=fun x hx=>by
  obtain⟨g1,g2⟩:=je x hx;show(0<=x.name.from_/\x.name.from_<=x.name.to/\x.name.to<=std.len (Q0 l))/\(0<=x.value.from_/\x.value.from_<=x.value.to/\x.value.to<=std.len (Q0 l))
  rw[jC];exact⟨⟨g1.a,g1.b,g1.c⟩,g2.a,g2.b,g2.c⟩
 have mb:∀L:List (List Int),Qd (Q13 name L (QY k) (QL k (QP d)))=Qd (Q13 name L (QY k) (QL k (QP d))):=fun _=>rfl
 have ms:∀(L:List (List Int)) (x:List Int),Qd (Q13 name (L++[x]) (QY k) (QL k (QP d)))=Qd (Q13 name L (QY k) (QL k (QP d)))++[.slc 1 (Q0 (QY k)),.slc 1 (paA k (QP d)),.slc 1 (Q0 x)]:=fun L x=>by rw[Q8q,Q44];rfl
 have ml:∀L:List (List Int),(Qd (Q13 name L (QY k) (QL k (QP d)))).length=3 * L.length+2:=fun L=>by rw[Q2l,Q4f]
 have m0:Qd (Q13 name [] (QY k) (QL k (QP d)))=[.slc 1 [.val (.int .i32 60)],.slc 1 (Q0 name)]:=rfl;obtain⟨MF,cg⟩:=exq (fun L=>Qd (Q13 name L (QY k) (QL k (QP d))):List (List Int)->List AV)
 have yT:∀L,Qd (Q13 name L (QY k) (QL k (QP d)))=MF L:=fun L=>by rw[cg]
 simp only[yT]at cJ2 j2 ms ml m0;clear mb yT cg;obtain⟨OF,ch⟩:=exq (fun L=>Qd (Q2J name L):List (List Int)->List AV)
 have os:∀(L:List (List Int)) (x:List Int),Qd (Q2J name (L++[x]))=Qd (Q2J name L)++[.slc 1 [.val (.int .i32 32)],.slc 1 (Q0 x)]:=fun L x=>by rw[Q9O,Q44];rfl
 have ol:∀L:List (List Int),(Qd (Q2J name L)).length=2 * L.length+2:=fun L=>by rw[Q2l,Q50]
 have o0:Qd (Q2J name [])=[.slc 1 [.val (.int .i32 60)],.slc 1 (Q0 name)]:=rfl;have yU:∀L,Qd (Q2J name L)=OF L:=fun L=>by rw[ch]
 simp only[yU]at cJ1 j1 os ol o0;clear yU ch
 have zv:(jA (OF ats)).length<=300000:=by
  have:=congrArg List.length j1
  rw[length_append,Q6,Q6]at this;omega
 have zw:(jA (MF ats)).length<=700000:=by
  have:=congrArg List.length j2
  rw[length_append,Q6,Q6]at this;omega
 have pD:(Q0 e).length<=204:=by rw[Q6];exact j5
 obtain⟨VA,zk⟩:=exq (Q5v k);obtain⟨J,hJ⟩:=exq jA;obtain⟨PA,zP⟩:=exq (paA k);obtain⟨BR,zQ⟩:=exq (Q0 (QY k));obtain⟨EN,zn⟩:=exq (Q0 e);obtain⟨FD,ci⟩:=exq (QP d);simp only[<-zk,<-hJ,<-zP,<-zQ,<-zn,<-ci]at cV cX jX cJ1 cJ2 cP cB cD cE j1 j2 qI ms zv zw pD;obtain⟨i2,w2,q2,e2',n2,t2,u2⟩:=k;obtain⟨i,w,q,e',n,tabs,wrap⟩:=c;unfold Cf.av at cC cV cE cP cB ⊢;obtain⟨AT,vz⟩:=exq (Qj at');rw[<-vz]at cR qo;have yk:∀{j:Int},0<=j->j<at'.length->std.cel (std.at_ AT j)=(at'[j.toNat]?.getD tattr0).cs:=fun h0 h1=>by rw[vz];exact Q7z h0 h1
 clear zk hJ zP zQ zn vz he jc je;refine fnO false (Qf0 [.val (.int .i64 i2),.val (.int .i64 w2),.val (.int .i64 q2),.val (.int .i64 e2'),.val (.int .i64 n2),.val (.bool t2),.val (.bool u2)] AT rk rf ru true false false VA EN J PA BR FD) rtO func7 rfl fun _ _=>?_
 with_reducible refine cv1 (Q0 l) ?_
 rw[<-jH]at cE;refine⟨cC,cR,fun hb=>absurd hb (by decide),fun _=>⟨cS,kl,cE,?_⟩⟩
 refine Qgj (Qf0 [.val (.int .i64 i2),.val (.int .i64 w2),.val (.int .i64 q2),.val (.int .i64 e2'),.val (.int .i64 n2),.val (.bool t2),.val (.bool u2)] AT rk rf ru true false false VA EN J PA BR FD) (fun id=>match id with|12=> rtO 12|14=> rtO 14|17=> rtO 17|_=>.nil) (Int) (fun j=>⟨[(1,.slc 1 (Q0 l)),(2,.val (.int .i64 d)),(4,.box 0 0),(9,.box 1 0),(11,.slc 1 EN),(12,.row 2 0),(13,.row 3 0),(60,.slc 9 AT),(61,.val (.int .i64 m)),(62,.val (.int .i64 j))],[.box [.val (.int .i64 i2),.val (.int .i64 w2),.val (.int .i64 q2),.val (.int .i64 e2'),.val (.int .i64 n2),.val (.bool t2),.val (.bool u2)],.box [.val (.int .i64 rk),.val (.int .i64 rf),.val (.int .i64 ru),.slc 9 AT,.val (.bool true),.val (.bool false)],.row 24 1 false 0 (OF (ats.take j.toNat)),.row 24 1 false 0 (MF (ats.take j.toNat))]⟩) (fun j=>0<=j/\j<=m) (fun j=>(m-j).toNat) 0 ?_ ?_ ?_
 ·exact⟨le_refl 0,by have:=hm.eq;omega⟩
 ·refine⟨[some 0,some 1,some 3,some 5],_,rfl,?_⟩
  have e1:([.slc 1 [.val (.int .i32 60)],.slc 1 (std.cut (Q0 l) rf ru)]:List AV)=OF (ats.take (0:Int).toNat):=by rw[jH];exact o0.symm
  have e2:([.slc 1 [.val (.int .i32 60)],.slc 1 (std.cut (Q0 l) rf ru)]:List AV)=MF (ats.take (0:Int).toNat):=by rw[jH];exact m0.symm
  exact eq3 (gI qo) (gA e1) (gA e2)
 ·rintro j ⟨yA,vO⟩
  have yA:0<=j:=yA;have vO:j<=m:=vO;have jP:=ol (ats.take j.toNat);have pE:=ml (ats.take j.toNat);have hH:(ats.take j.toNat).length<=201:=by rw[length_take];omega
  with_reducible refine cv3 (Q0 l) (OF (ats.take j.toNat)) (MF (ats.take j.toNat)) ?_
  refine⟨fun h=>?_,fun h=>?_⟩
  ·have h:j<m:=of_decide_eq_true h
   have vM:j<at'.length:=by have:=hm.eq;omega
   have hX:=yk yA vM
   have zG:at'[j.toNat]?.getD tattr0∈at':=by
    rw[getElem?_eq_getElem (by omega)]
    exact getElem_mem _
   have jY:ats[j.toNat]?.getD []=Q1q ⟨i2,w2,q2,e2',n2,t2,u2⟩ l (at'[j.toNat]?.getD tattr0):=by
    rw[jN,getElem?_map,getElem?_eq_getElem (by omega)];rfl
   have zW:j<ats.length:=by rw[jN,length_map];exact vM
   have zo:=Q2o yA zW;rw[jY]at zo;have cVx:=cV _ zG;have cXx:=cX _ zG;have jXx:=jX (at'[j.toNat]?.getD tattr0);have zx:=pC _ zG;generalize at'[j.toNat]?.getD tattr0=x at *;have pF:std.int (std.nth (std.cel (std.at_ AT j)) 1)=x.name.from_:=by rw[hX];rfl
   have pG:std.int (std.nth (std.cel (std.at_ AT j)) 2)=x.name.to:=by rw[hX];rfl
   have cj:std.int (std.nth (std.cel (std.at_ AT j)) 4)=x.value.from_:=by rw[hX];rfl
   have ck:std.int (std.nth (std.cel (std.at_ AT j)) 5)=x.value.to:=by rw[hX];rfl
   rw[<-pF,<-pG,<-cj,<-ck]at zx cXx jXx;rw[<-cj,<-ck]at cVx
   have zy:(std.inb j (std.len AT)).q:=by
    show 0<=j/\j<std.len AT;rw[qo];omega
   have vg:(std.all [std.hasI .i64 (std.nth (std.cel (std.at_ AT j)) 0),std.hasI .i64 (std.nth (std.cel (std.at_ AT j)) 1),std.hasI .i64 (std.nth (std.cel (std.at_ AT j)) 2),std.hasI .i64 (std.nth (std.cel (std.at_ AT j)) 3),std.hasI .i64 (std.nth (std.cel (std.at_ AT j)) 4),std.hasI .i64 (std.nth (std.cel (std.at_ AT j)) 5),std.hasI .i64 (std.nth (std.cel (std.at_ AT j)) 6),std.hasI .i64 (std.nth (std.cel (std.at_ AT j)) 7),std.hasI .i64 (std.nth (std.cel (std.at_ AT j)) 8)]).q:=by
    rw[hX];exact⟨rfl,rfl,rfl,rfl,rfl,rfl,rfl,rfl,rfl,trivial⟩
   have cl:(std.inR .i64 (std.add j 1)).q:=by
    show(-9223372036854775808:Int)<=j+1/\j+1<=(9223372036854775807:Int)
    have:=hm.eq;omega
   have j9:∀a b:AV,(std.bnd (OF (ats.take j.toNat)) [a,b]).q:=fun a b=>by
    show(OF (ats.take j.toNat)).length+2<=1000000000
    omega
   have jU:∀a b c:AV,(std.bnd (MF (ats.take j.toNat)) [a,b,c]).q:=fun a b c=>by
    show(MF (ats.take j.toNat)).length+3<=1000000000
    omega
   have e1:=os (ats.take j.toNat) (Q1q ⟨i2,w2,q2,e2',n2,t2,u2⟩ l x);have e2:=ms (ats.take j.toNat) (Q1q ⟨i2,w2,q2,e2',n2,t2,u2⟩ l x);rw[<-zo,<-jXx]at e1 e2;have e1:=e1.symm;have e2:=e2.symm;have fin:∀{P:Prop},(P↔P)->True:=fun _=>trivial
   refine⟨zy,vg,zx.1,zx.2,⟨cVx,cXx,j9 _ _,cB,cD,cP _,jU _ _ _,cl,j+1,⟨by omega,by omega⟩,by omega,[some 0,some 1,some 2,some 3],_,rfl,?_⟩,cVx,cXx,j9 _ _,cB,cD,cP _,jU _ _ _,cl,j+1,⟨by omega,by omega⟩,by omega,[some 0,some 1,some 2,some 3],_,rfl,?_⟩
   all_goals
    exact eq2 (gA e1) (gA e2)
  ·have h:¬j<m:=of_decide_eq_false h
   rw[if_pos trivial];rw[show ats.take j.toNat=ats from take_of_length_le (by rw[jN,length_map];have:=hm.eq;omega)]
   with_reducible refine cv3 (Q0 l) (OF ats) (MF ats) ?_
   rw[ci]at j2
   have zp:std.len (std.app (J (OF ats)) EN)=((QF name ats [32] e).length:Int):=by
    show((J (OF ats)++EN).length:Int)=_
    rw[j1,Q6]
   have zq:std.len (PA d)=((QL ⟨i2,w2,q2,e2',n2,t2,u2⟩ d).length:Int):=by
    show((PA d).length:Int)=_
    rw[qI]
   have hpd:=jw d;have fin1:AV.slc 1 (std.app (J (OF ats)) EN)=.slc 1 (Q0 (QF name ats [32] e)):=congrArg _ j1;have fin2:AV.slc 1 (std.app (J (MF ats)) EN)=.slc 1 (Q0 (QF name ats (QY ⟨i2,w2,q2,e2',n2,t2,u2⟩++QL ⟨i2,w2,q2,e2',n2,t2,u2⟩ (QP d)) e)):=congrArg _ j2
   have yq:∀b,std.ltI w2 (std.add (std.len (std.app (J (OF ats)) EN)) (std.len (PA d)))=b->decide (w2<((QF name ats [32] e).length:Int)+(QL ⟨i2,w2,q2,e2',n2,t2,u2⟩ d).length)=b:=fun b hb=>by
    have hb:decide (w2<std.len (std.app (J (OF ats)) EN)+std.len (PA d))=b:=hb;rw[zp,zq]at hb;exact hb
   have zr:∀b,std.ltI 0 (std.len AT)=b->decide (0<ats.length)=b:=fun b hb=>by
    have hb:decide (0<std.len AT)=b:=hb;rw[qo]at hb;rw[<-hb];refine decide_eq_decide.2 ?_;rw[jN,length_map];have:=hm.eq;omega
   refine⟨cJ1,?_,fun hu=>⟨fun hp=>⟨cP d,?_,fun hw=>⟨cJ2,?_,.pure rfl (.inl ?_)⟩,fun hw=>.pure rfl (.inl ?_)⟩,fun hp=>.pure rfl (.inl ?_)⟩,fun hu=>.pure rfl (.inl ?_)⟩
   ·show(J (OF ats)).length+EN.length<=1000000000
    omega
   ·show(-9223372036854775808:Int)<=std.len (std.app (J (OF ats)) EN)+std.len (PA d)/\std.len (std.app (J (OF ats)) EN)+std.len (PA d)<=9223372036854775807
    rw[zp,zq];omega
   ·show(J (MF ats)).length+EN.length<=1000000000
    omega
   ·rw[fin2,if_pos ⟨hu,of_decide_eq_true (zr _ hp),of_decide_eq_true (yq _ hw)⟩]
   ·rw[fin1,if_neg fun hx=>of_decide_eq_false (yq _ hw) hx.2.2]
   ·rw[fin1,if_neg fun hx=>of_decide_eq_false (zr _ hp) hx.2.1]
   ·rw[fin1,if_neg fun hx=>Bool.false_ne_true (hu.symm.trans hx.1)]
theorem QjD(c:Cf)(l:List Int)(hl:l.length<=200)(hu:Un l)(d:Int)(hd:-9223372036854775808<=d)(h0:(Qa l 0 l.length).empty=false)(h1:(Qa l 0 l.length).right=true)(h2:Q7 l 0 [60,47]=false) :
  BCall prog 7 [c.av,.slc 1 (Q0 l),.val (.int .i64 d),.val (.bool false)] [] (.slc 1 (Q0 (Q3j c l d false))) []:=by
 have cC:=Q3f c;have jC:std.len (Q0 l)=l.length:=by show((Q0 l).length:Int)=_;rw[Q6]
 have cR:=Q93 l (by omega) hu 0 l.length (le_refl 0) (natCast_nonneg _) (le_refl _)
 have cS:=Q3C l (by omega) hu 0 (le_refl 0) (natCast_nonneg _) ⟨⟨[60,47]⟩⟩ (by decide)
 change BCall _ _ _ _ (.val (.bool (Q7 l 0 [60,47]))) _ at cS;unfold Q6S at cR;obtain⟨je,yj⟩:=Q8Y l;have qi:=Q7p l 0 l.length (le_refl 0) (natCast_nonneg _) (le_refl _);have zm:=Q48 (n:=c.e) (lo:=0) (hi:=3) (by decide)
 have vL:=Q48 (n:=c.n) (lo:=0) (hi:=2) (by decide)
 have eT:Q3j c l d false=if c.clamp.wrap=true/\0<((Qa l 0 l.length).attrs.map (Q1q c.clamp l)).length/\((QF (cutL l (Qa l 0 l.length).name.from_ (Qa l 0 l.length).name.to) ((Qa l 0 l.length).attrs.map (Q1q c.clamp l)) [32] (Q2j c.clamp (cutL l (Qa l 0 l.length).name.from_ (Qa l 0 l.length).name.to) ((Qa l 0 l.length).empty||(false&&decide (0<c.clamp.e))))).length:Int)+(QL c.clamp d).length > c.clamp.w then QF (cutL l (Qa l 0 l.length).name.from_ (Qa l 0 l.length).name.to) ((Qa l 0 l.length).attrs.map (Q1q c.clamp l)) (QY c.clamp++QL c.clamp (QP d)) (Q2j c.clamp (cutL l (Qa l 0 l.length).name.from_ (Qa l 0 l.length).name.to) ((Qa l 0 l.length).empty||(false&&decide (0<c.clamp.e))))else QF (cutL l (Qa l 0 l.length).name.from_ (Qa l 0 l.length).name.to) ((Qa l 0 l.length).attrs.map (Q1q c.clamp l)) [32] (Q2j c.clamp (cutL l (Qa l 0 l.length).name.from_ (Qa l 0 l.length).name.to) ((Qa l 0 l.length).empty||(false&&decide (0<c.clamp.e)))):=by
  unfold Q3j;simp only[h1,h2,Bool.false_eq_true,Bool.true_eq_false,or_self,if_false]
 rw[eT];clear eT;have ya:0<=c.clamp.e:=zm.1;have yw:0<=c.clamp.n/\c.clamp.n<=2:=vL;rw[h1,h0]at cR;rw[h0];rw[h2]at cS;generalize c.clamp=k at *;obtain⟨at',jW⟩:=exq ((Qa l 0 l.length).attrs);rw[<-jW]at cR je yj ⊢;clear jW;generalize (Qa l 0 l.length).name.kind=rk at *;generalize (Qa l 0 l.length).name.from_=rf at *;generalize (Qa l 0 l.length).name.to=ru at *;clear h0 h1 h2 zm vL;obtain⟨m,hm⟩:=QC at';have qo:std.len (Qj at')=m:=by show((Qj at').length:Int)=m;rw[Q1X,hm.eq]
 obtain⟨name,jc⟩:=exq (cutL l rf ru);have gf:name.length<=200:=by rw[jc];have:=QT l rf ru;omega
 have jH:std.cut (Q0 l) rf ru=Q0 name:=by rw[jc,Q1I]
 rw[<-jc];have cE:=QeW k name (by omega) (false||(false&&decide (0<k.e)))
 obtain⟨e,he⟩:=exq (Q2j k name (false||(false&&decide (0<k.e))))
 have j5:e.length<=204:=by rw[he];have:=Q6r k name (false||(false&&decide (0<k.e)));omega
 rw[<-he]at cE ⊢;obtain⟨ats,jN⟩:=exq (at'.map (Q1q k l));have jT:ats.length<=201:=by rw[jN,length_map];omega
 have yI:∀x∈ats,x.length<=1403:=fun x hx=>by
  rw[jN]at hx;obtain⟨a,_,rfl⟩:=mem_map.1 hx;have:=Q7m k l a
  omega
 rw[<-jN];have jw:=Q7u k;have jV:=Q7N k;have cP:∀x,BCall prog 26 [k.av,.val (.int .i64 x)] [] (.slc 1 (paA k x)) []:=fun x=>QeE k x
 have cB:=Qam k;have cD:=Q8l d hd
 have cV:∀x∈at',BCall prog 24 [k.av,.slc 1 (std.cut (Q0 l) x.value.from_ x.value.to)] [] (.slc 1 (Q5v k (std.cut (Q0 l) x.value.from_ x.value.to))) []:=fun x hx=>by
  rw[Q1I,Q4j];exact Qad k _ (by have:=QT l x.value.from_ x.value.to;omega)
 have cX:∀x∈at',BCall prog 23 [.slc 1 [.slc 1 (std.cut (Q0 l) x.name.from_ x.name.to),.slc 1 [.val (.int .i32 61)],.slc 1 (Q5v k (std.cut (Q0 l) x.value.from_ x.value.to))]] [] (.row 0 0) [.row 21 1 false 0 (jA [.slc 1 (std.cut (Q0 l) x.name.from_ x.name.to),.slc 1 [.val (.int .i32 61)],.slc 1 (Q5v k (std.cut (Q0 l) x.value.from_ x.value.to))])]:=fun x hx=>by
  rw[Q1I,Q1I,Q4j];refine QbA [cutL l x.name.from_ x.name.to,[61],Q4k k (cutL l x.value.from_ x.value.to)] (by simp) fun y hy=>?_
  simp only[mem_cons,not_mem_nil,or_false]at hy;have g1:=QT l x.name.from_ x.name.to;have g2:=QT l x.value.from_ x.value.to;have g3:=Q5Z k (cutL l x.value.from_ x.value.to);rcases hy with rfl|rfl|rfl
  ·omega
  ·simp
  ·omega
 have jX:∀x:TAttr,jA [.slc 1 (std.cut (Q0 l) x.name.from_ x.name.to),.slc 1 [.val (.int .i32 61)],.slc 1 (Q5v k (std.cut (Q0 l) x.value.from_ x.value.to))]=Q0 (Q1q k l x):=fun x=>by
  rw[Q1I,Q1I,Q4j];have:=QaF [cutL l x.name.from_ x.name.to,[61],Q4k k (cutL l x.value.from_ x.value.to)]
  rw[show [cutL l x.name.from_ x.name.to,[61],Q4k k (cutL l x.value.from_ x.value.to)].flatten=Q1q k l x by simp[Q1q]]at this
  exact this
 have cJ1:=QbA (Q2J name ats) (by rw[Q50];omega) (Qc4 (n:=100000) (by omega) (by decide) fun x hx=>by have:=yI x hx;omega)
 have cJ2:=QbA (Q13 name ats (QY k) (QL k (QP d))) (by rw[Q4f];omega) (Qag (n:=100000) (by omega) (by decide) (by omega) (by have:=jw (QP d);omega) fun x hx=>by have:=yI x hx;omega)
 have j1:jA (Qd (Q2J name ats))++Q0 e=Q0 (QF name ats [32] e):=by rw[QaF,<-Qy,Qa0]
 have j2:jA (Qd (Q13 name ats (QY k) (QL k (QP d))))++Q0 e=Q0 (QF name ats (QY k++QL k (QP d)) e):=by rw[QaF,<-Qy,Q7Y]
 have vY:(QF name ats [32] e).length<=300000:=by
  have h:=Q2b ([32]++·) 1404 ats fun x h=>by
   have:=yI x h
   rw[length_append,List.length_singleton];omega
  have h3:1404 * ats.length<=1404 * 201:=Nat.mul_le_mul_left _ jT;rw[QF,length_append,length_append,length_cons];omega
 have pB:(QF name ats (QY k++QL k (QP d)) e).length<=700000:=by
  have h:=Q2b (QY k++QL k (QP d)++·) 3100 ats fun x h=>by
   have:=yI x h
   have:=jw (QP d)
   rw[length_append,length_append];omega
  have h3:3100 * ats.length<=3100 * 201:=Nat.mul_le_mul_left _ jT;rw[QF,length_append,length_append,length_cons];omega
 have kl:(std.cutok rf ru (std.len (Q0 l))).q:=by
  show 0<=rf/\rf<=ru/\ru<=std.len (Q0 l);rw[jC];exact qi
 rw[<-jC]at cR;have qI:∀x,(paA k x).length=(QL k x).length:=fun x=>Q6 _
 have pC:∀x∈at',(std.cutok x.name.from_ x.name.to (std.len (Q0 l))).q/\(std.cutok x.value.from_ x.value.to (std.len (Q0 l))).q:=fun x hx=>by
  obtain⟨g1,g2⟩:=je x hx;show(0<=x.name.from_/\x.name.from_<=x.name.to/\x.name.to<=std.len (Q0 l))/\(0<=x.value.from_/\x.value.from_<=x.value.to/\x.value.to<=std.len (Q0 l))
  rw[jC];exact⟨⟨g1.a,g1.b,g1.c⟩,g2.a,g2.b,g2.c⟩
 have mb:∀L:List (List Int),Qd (Q13 name L (QY k) (QL k (QP d)))=Qd (Q13 name L (QY k) (QL k (QP d))):=fun _=>rfl
 have ms:∀(L:List (List Int)) (x:List Int),Qd (Q13 name (L++[x]) (QY k) (QL k (QP d)))=Qd (Q13 name L (QY k) (QL k (QP d)))++[.slc 1 (Q0 (QY k)),.slc 1 (paA k (QP d)),.slc 1 (Q0 x)]:=fun L x=>by rw[Q8q,Q44];rfl
 have ml:∀L:List (List Int),(Qd (Q13 name L (QY k) (QL k (QP d)))).length=3 * L.length+2:=fun L=>by rw[Q2l,Q4f]
 have m0:Qd (Q13 name [] (QY k) (QL k (QP d)))=[.slc 1 [.val (.int .i32 60)],.slc 1 (Q0 name)]:=rfl;obtain⟨MF,cg⟩:=exq (fun L=>Qd (Q13 name L (QY k) (QL k (QP d))):List (List Int)->List AV)
 have yT:∀L,Qd (Q13 name L (QY k) (QL k (QP d)))=MF L:=fun L=>by rw[cg]
 simp only[yT]at cJ2 j2 ms ml m0;clear mb yT cg;obtain⟨OF,ch⟩:=exq (fun L=>Qd (Q2J name L):List (List Int)->List AV)
 have os:∀(L:List (List Int)) (x:List Int),Qd (Q2J name (L++[x]))=Qd (Q2J name L)++[.slc 1 [.val (.int .i32 32)],.slc 1 (Q0 x)]:=fun L x=>by rw[Q9O,Q44];rfl
 have ol:∀L:List (List Int),(Qd (Q2J name L)).length=2 * L.length+2:=fun L=>by rw[Q2l,Q50]
 have o0:Qd (Q2J name [])=[.slc 1 [.val (.int .i32 60)],.slc 1 (Q0 name)]:=rfl;have yU:∀L,Qd (Q2J name L)=OF L:=fun L=>by rw[ch]
 simp only[yU]at cJ1 j1 os ol o0;clear yU ch
 have zv:(jA (OF ats)).length<=300000:=by
  have:=congrArg List.length j1
  rw[length_append,Q6,Q6]at this;omega
 have zw:(jA (MF ats)).length<=700000:=by
  have:=congrArg List.length j2
  rw[length_append,Q6,Q6]at this;omega
 have pD:(Q0 e).length<=204:=by rw[Q6];exact j5
 obtain⟨VA,zk⟩:=exq (Q5v k);obtain⟨J,hJ⟩:=exq jA;obtain⟨PA,zP⟩:=exq (paA k);obtain⟨BR,zQ⟩:=exq (Q0 (QY k));obtain⟨EN,zn⟩:=exq (Q0 e);obtain⟨FD,ci⟩:=exq (QP d);simp only[<-zk,<-hJ,<-zP,<-zQ,<-zn,<-ci]at cV cX jX cJ1 cJ2 cP cB cD cE j1 j2 qI ms zv zw pD;obtain⟨i2,w2,q2,e2',n2,t2,u2⟩:=k;obtain⟨i,w,q,e',n,tabs,wrap⟩:=c;unfold Cf.av at cC cV cE cP cB ⊢;obtain⟨AT,vz⟩:=exq (Qj at');rw[<-vz]at cR qo;have yk:∀{j:Int},0<=j->j<at'.length->std.cel (std.at_ AT j)=(at'[j.toNat]?.getD tattr0).cs:=fun h0 h1=>by rw[vz];exact Q7z h0 h1
 clear zk hJ zP zQ zn vz he jc je;refine fnO false (Qf0 [.val (.int .i64 i2),.val (.int .i64 w2),.val (.int .i64 q2),.val (.int .i64 e2'),.val (.int .i64 n2),.val (.bool t2),.val (.bool u2)] AT rk rf ru true false false VA EN J PA BR FD) rtO func7 rfl fun _ _=>?_
 with_reducible refine cv1 (Q0 l) ?_
 rw[<-jH]at cE;refine⟨cC,cR,fun hb=>absurd hb (by decide),fun _=>⟨cS,kl,cE,?_⟩⟩
 refine Qgj (Qf0 [.val (.int .i64 i2),.val (.int .i64 w2),.val (.int .i64 q2),.val (.int .i64 e2'),.val (.int .i64 n2),.val (.bool t2),.val (.bool u2)] AT rk rf ru true false false VA EN J PA BR FD) (fun id=>match id with|12=> rtO 12|14=> rtO 14|17=> rtO 17|_=>.nil) (Int) (fun j=>⟨[(1,.slc 1 (Q0 l)),(2,.val (.int .i64 d)),(4,.box 0 0),(9,.box 1 0),(11,.slc 1 EN),(12,.row 2 0),(13,.row 3 0),(60,.slc 9 AT),(61,.val (.int .i64 m)),(62,.val (.int .i64 j))],[.box [.val (.int .i64 i2),.val (.int .i64 w2),.val (.int .i64 q2),.val (.int .i64 e2'),.val (.int .i64 n2),.val (.bool t2),.val (.bool u2)],.box [.val (.int .i64 rk),.val (.int .i64 rf),.val (.int .i64 ru),.slc 9 AT,.val (.bool true),.val (.bool false)],.row 24 1 false 0 (OF (ats.take j.toNat)),.row 24 1 false 0 (MF (ats.take j.toNat))]⟩) (fun j=>0<=j/\j<=m) (fun j=>(m-j).toNat) 0 ?_ ?_ ?_
 ·exact⟨le_refl 0,by have:=hm.eq;omega⟩
 ·refine⟨[some 0,some 1,some 3,some 5],_,rfl,?_⟩
  have e1:([.slc 1 [.val (.int .i32 60)],.slc 1 (std.cut (Q0 l) rf ru)]:List AV)=OF (ats.take (0:Int).toNat):=by rw[jH];exact o0.symm
  have e2:([.slc 1 [.val (.int .i32 60)],.slc 1 (std.cut (Q0 l) rf ru)]:List AV)=MF (ats.take (0:Int).toNat):=by rw[jH];exact m0.symm
  exact eq3 (gI qo) (gA e1) (gA e2)
 ·rintro j ⟨yA,vO⟩
  have yA:0<=j:=yA;have vO:j<=m:=vO;have jP:=ol (ats.take j.toNat);have pE:=ml (ats.take j.toNat);have hH:(ats.take j.toNat).length<=201:=by rw[length_take];omega
  with_reducible refine cv3 (Q0 l) (OF (ats.take j.toNat)) (MF (ats.take j.toNat)) ?_
  refine⟨fun h=>?_,fun h=>?_⟩
  ·have h:j<m:=of_decide_eq_true h
   have vM:j<at'.length:=by have:=hm.eq;omega
   have hX:=yk yA vM
   have zG:at'[j.toNat]?.getD tattr0∈at':=by
    rw[getElem?_eq_getElem (by omega)]
    exact getElem_mem _
   have jY:ats[j.toNat]?.getD []=Q1q ⟨i2,w2,q2,e2',n2,t2,u2⟩ l (at'[j.toNat]?.getD tattr0):=by
    rw[jN,getElem?_map,getElem?_eq_getElem (by omega)];rfl
   have zW:j<ats.length:=by rw[jN,length_map];exact vM
   have zo:=Q2o yA zW;rw[jY]at zo;have cVx:=cV _ zG;have cXx:=cX _ zG;have jXx:=jX (at'[j.toNat]?.getD tattr0);have zx:=pC _ zG;generalize at'[j.toNat]?.getD tattr0=x at *;have pF:std.int (std.nth (std.cel (std.at_ AT j)) 1)=x.name.from_:=by rw[hX];rfl
   have pG:std.int (std.nth (std.cel (std.at_ AT j)) 2)=x.name.to:=by rw[hX];rfl
   have cj:std.int (std.nth (std.cel (std.at_ AT j)) 4)=x.value.from_:=by rw[hX];rfl
   have ck:std.int (std.nth (std.cel (std.at_ AT j)) 5)=x.value.to:=by rw[hX];rfl
   rw[<-pF,<-pG,<-cj,<-ck]at zx cXx jXx;rw[<-cj,<-ck]at cVx
   have zy:(std.inb j (std.len AT)).q:=by
    show 0<=j/\j<std.len AT;rw[qo];omega
   have vg:(std.all [std.hasI .i64 (std.nth (std.cel (std.at_ AT j)) 0),std.hasI .i64 (std.nth (std.cel (std.at_ AT j)) 1),std.hasI .i64 (std.nth (std.cel (std.at_ AT j)) 2),std.hasI .i64 (std.nth (std.cel (std.at_ AT j)) 3),std.hasI .i64 (std.nth (std.cel (std.at_ AT j)) 4),std.hasI .i64 (std.nth (std.cel (std.at_ AT j)) 5),std.hasI .i64 (std.nth (std.cel (std.at_ AT j)) 6),std.hasI .i64 (std.nth (std.cel (std.at_ AT j)) 7),std.hasI .i64 (std.nth (std.cel (std.at_ AT j)) 8)]).q:=by
    rw[hX];exact⟨rfl,rfl,rfl,rfl,rfl,rfl,rfl,rfl,rfl,trivial⟩
   have cl:(std.inR .i64 (std.add j 1)).q:=by
    show(-9223372036854775808:Int)<=j+1/\j+1<=(9223372036854775807:Int)
    have:=hm.eq;omega
   have j9:∀a b:AV,(std.bnd (OF (ats.take j.toNat)) [a,b]).q:=fun a b=>by
    show(OF (ats.take j.toNat)).length+2<=1000000000
    omega
   have jU:∀a b c:AV,(std.bnd (MF (ats.take j.toNat)) [a,b,c]).q:=fun a b c=>by
    show(MF (ats.take j.toNat)).length+3<=1000000000
    omega
   have e1:=os (ats.take j.toNat) (Q1q ⟨i2,w2,q2,e2',n2,t2,u2⟩ l x);have e2:=ms (ats.take j.toNat) (Q1q ⟨i2,w2,q2,e2',n2,t2,u2⟩ l x);rw[<-zo,<-jXx]at e1 e2;have e1:=e1.symm;have e2:=e2.symm;have fin:∀{P:Prop},(P↔P)->True:=fun _=>trivial
   refine⟨zy,vg,zx.1,zx.2,⟨cVx,cXx,j9 _ _,cB,cD,cP _,jU _ _ _,cl,j+1,⟨by omega,by omega⟩,by omega,[some 0,some 1,some 2,some 3],_,rfl,?_⟩,cVx,cXx,j9 _ _,cB,cD,cP _,jU _ _ _,cl,j+1,⟨by omega,by omega⟩,by omega,[some 0,some 1,some 2,some 3],_,rfl,?_⟩
   all_goals
    exact eq2 (gA e1) (gA e2)
  ·have h:¬j<m:=of_decide_eq_false h
   rw[if_pos trivial];rw[show ats.take j.toNat=ats from take_of_length_le (by rw[jN,length_map];have:=hm.eq;omega)]
   with_reducible refine cv3 (Q0 l) (OF ats) (MF ats) ?_
   rw[ci]at j2
   have zp:std.len (std.app (J (OF ats)) EN)=((QF name ats [32] e).length:Int):=by
    show((J (OF ats)++EN).length:Int)=_
    rw[j1,Q6]
   have zq:std.len (PA d)=((QL ⟨i2,w2,q2,e2',n2,t2,u2⟩ d).length:Int):=by
    show((PA d).length:Int)=_
    rw[qI]
   have hpd:=jw d;have fin1:AV.slc 1 (std.app (J (OF ats)) EN)=.slc 1 (Q0 (QF name ats [32] e)):=congrArg _ j1;have fin2:AV.slc 1 (std.app (J (MF ats)) EN)=.slc 1 (Q0 (QF name ats (QY ⟨i2,w2,q2,e2',n2,t2,u2⟩++QL ⟨i2,w2,q2,e2',n2,t2,u2⟩ (QP d)) e)):=congrArg _ j2
   have yq:∀b,std.ltI w2 (std.add (std.len (std.app (J (OF ats)) EN)) (std.len (PA d)))=b->decide (w2<((QF name ats [32] e).length:Int)+(QL ⟨i2,w2,q2,e2',n2,t2,u2⟩ d).length)=b:=fun b hb=>by
    have hb:decide (w2<std.len (std.app (J (OF ats)) EN)+std.len (PA d))=b:=hb;rw[zp,zq]at hb;exact hb
   have zr:∀b,std.ltI 0 (std.len AT)=b->decide (0<ats.length)=b:=fun b hb=>by
    have hb:decide (0<std.len AT)=b:=hb;rw[qo]at hb;rw[<-hb];refine decide_eq_decide.2 ?_;rw[jN,length_map];have:=hm.eq;omega
   refine⟨cJ1,?_,fun hu=>⟨fun hp=>⟨cP d,?_,fun hw=>⟨cJ2,?_,.pure rfl (.inl ?_)⟩,fun hw=>.pure rfl (.inl ?_)⟩,fun hp=>.pure rfl (.inl ?_)⟩,fun hu=>.pure rfl (.inl ?_)⟩
   ·show(J (OF ats)).length+EN.length<=1000000000
    omega
   ·show(-9223372036854775808:Int)<=std.len (std.app (J (OF ats)) EN)+std.len (PA d)/\std.len (std.app (J (OF ats)) EN)+std.len (PA d)<=9223372036854775807
    rw[zp,zq];omega
   ·show(J (MF ats)).length+EN.length<=1000000000
    omega
   ·rw[fin2,if_pos ⟨hu,of_decide_eq_true (zr _ hp),of_decide_eq_true (yq _ hw)⟩]
   ·rw[fin1,if_neg fun hx=>of_decide_eq_false (yq _ hw) hx.2.2]
   ·rw[fin1,if_neg fun hx=>of_decide_eq_false (zr _ hp) hx.2.1]
   ·rw[fin1,if_neg fun hx=>Bool.false_ne_true (hu.symm.trans hx.1)]
theorem Qno(c:Cf)(l:List Int)(hl:l.length<=200)(hu:Un l)(d:Int)(hd:-9223372036854775808<=d)(p:Bool) :
  BCall prog 7 [c.av,.slc 1 (Q0 l),.val (.int .i64 d),.val (.bool p)] [] (.slc 1 (Q0 (Q3j c l d p))) []:=by
 cases h1:(Qa l 0 l.length).right with
 |false =>
  have e:Q3j c l d p=l:=by
   unfold Q3j;simp only[h1,true_or,if_true]
  rw[e];exact QcP c l hl hu d p (.inl h1)
 |true =>
  cases h2:Q7 l 0 [60,47]with
  |false =>
   cases h0:(Qa l 0 l.length).empty with
   |true=>exact Qk0 c l hl hu d hd p h0 h1 h2
   |false =>
    cases p with
    |true=>exact Qk2 c l hl hu d hd h0 h1 h2
    |false=>exact QjD c l hl hu d hd h0 h1 h2
  |true =>
   have e:Q3j c l d p=l:=by
    unfold Q3j;simp only[h2,or_true,if_true]
   rw[e];exact QcP c l hl hu d p (.inr ⟨h1,h2⟩)
