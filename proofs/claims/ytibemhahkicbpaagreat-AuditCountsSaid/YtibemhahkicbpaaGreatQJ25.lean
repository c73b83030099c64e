/- Lemmas; conditions told. -/
import Derived.Test.YtibemhahkicbpaaGreatQJ23
set_option maxRecDepth 99999
set_option maxHeartbeats 0
set_option linter.unusedSimpArgs false
set_option linter.unusedVariables false
namespace Go.Proofs.YtibemhahkicbpaaGreat
open Go.RowKit Go.Lib
section
open Tryz
def Q2b(l:List Int)(k:Nat):List AV:=(List.range k).map fun j=>.agg [.val (.int .i64 (lcF l j).1),.val (.int .i64 (lcF l j).2)]
theorem Q7d(l:List Int)(k:Nat):(Q2b l k).length=k:=by simp[Q2b]
theorem Qa7(l:List Int)(k:Nat):Q2b l (k+1)=Q2b l k++[.agg [.val (.int .i64 (lcF l k).1),.val (.int .i64 (lcF l k).2)]]:=by simp[Q2b,List.range_succ]
theorem Qnx(l:List Int)(hl:l.length<=1000000):BCall prog 71 [.slc 1 (Q0 l)] [] (.slc 2 (Q2b l (l.length+1))) []:=by
 obtain⟨n,hn⟩:=QE l;have jB:std.len (Q0 l)=n:=by show((Q0 l).length:Int)=n;rw[Qx,hn.eq]
 refine fnN (cs0) func71 rfl fun _ _=>?_
 with_reducible refine cv1 (Q0 l) ?_
 have qR:0<=n:=by have:=hn.eq;omega
 have qu:n<=1000000:=by have:=hn.eq;omega
 obtain⟨P,hP⟩:=exq (fun i=>Q2b l (i.toNat+1):Int->List AV)
 have hPl:∀i,0<=i->std.len (P i)=i+1:=fun i hi=>by
  show((P i).length:Int)=i+1
  rw[hP];show((Q2b l (i.toNat+1)).length:Int)=i+1
  rw[Q7d];omega
 have hPa:∀i,0<=i->std.at_ (P i) i=.agg [.val (.int .i64 (lcF l i.toNat).1),.val (.int .i64 (lcF l i.toNat).2)]:=fun i hi=>by
  show(P i).getD i.toNat .dead=_
  rw[hP];show(Q2b l (i.toNat+1)).getD i.toNat .dead=_
  rw[Qa7,List.getD_eq_getElem?_getD,List.getElem?_append_right (by rw[Q7d];omega),Q7d,Nat.sub_self];rfl
 have hPs:∀i,0<=i->P (i+1)=P i++[.agg [.val (.int .i64 (lcF l (i+1).toNat).1),.val (.int .i64 (lcF l (i+1).toNat).2)]]:=fun i hi=>by
  rw[hP];show Q2b l ((i+1).toNat+1)=Q2b l (i.toNat+1)++_;rw[Qa7,show(i+1).toNat=i.toNat+1 by omega]
 refine Q1h (cs0) (Int) (fun i=>⟨[(0,.slc 1 (Q0 l)),(3,.row 0 0),(10,.val (.int .i64 n)),(11,.val (.int .i64 i))],[.row 149 2 false 0 (P i)]⟩) (fun i=>0<=i/\i<=n) (fun i=>(n-i).toNat) 0 ?_ ?_ ?_
 ·exact⟨Int.le_refl _,qR⟩
 ·have hP0:[.agg [.val (.int .i64 1),.val (.int .i64 1)]]=P 0:=by rw[hP];rfl
  refine⟨[some 0],_,rfl,?_⟩;exact eq2 jB hP0
 ·rintro i ⟨jK,qE⟩
  rcases Int.lt_or_eq_of_le qE with jA|jZ
  ·have hx:=QJ (l:=l) jK (by have:=hn.eq;omega)
   have yD:i+1<n->(Q0 l)[(i+1).toNat]?.getD .dead=.val (.int .i32 (l[(i+1).toNat]?.getD 0)):=fun h=>QJ (by omega) (by have:=hn.eq;omega)
   have cj:=Q8T l i.toNat
   have jI:lcF l (i+1).toNat=if QfD l i.toNat=true then((lcF l i.toNat).1+1,1)else((lcF l i.toNat).1,(lcF l i.toNat).2+1):=by
    rw[show(i+1).toNat=i.toNat+1 by omega];rfl
   have kW:QfD l i.toNat=(l[i.toNat]?.getD 0 == 10||(l[i.toNat]?.getD 0 == 13&&(decide (i+1=n)||!(l[(i+1).toNat]?.getD 0 == 10)))):=by
    have e1:decide (i.toNat+1=l.length)=decide (i+1=n):=decide_eq_decide.2 (by have:=hn.eq;omega)
    rw[QfD,e1,show(i+1).toNat=i.toNat+1 by omega]
   obtain⟨c,hc⟩:=exq (l[i.toNat]?.getD 0);obtain⟨d,hd⟩:=exq (l[(i+1).toNat]?.getD 0);rw[<-hc]at hx kW;rw[<-hd]at yD kW;rw[kW]at jI;have hPi:=hPa i jK;have k6:=hPl i jK;have pF:=hPs i jK;obtain⟨a,ha⟩:=exq ((lcF l i.toNat).1);obtain⟨b,hb⟩:=exq ((lcF l i.toNat).2);rw[<-ha,<-hb]at jI cj hPi;have cj:1<=a/\a<=1000001/\1<=b/\b<=1000001:=by omega
   clear kW hc hd ha hb hPa hPl hPs hP;have jb:std.ltI i n=true:=decide_eq_true jA
   have yes:(c == 10||(c == 13&&(decide (i+1=n)||!(d == 10))))=true->P i++[.agg [.val (.int .i64 (a+1)),.val (.int .i64 1)]]=P (i+1):=fun h=>by
    rw[if_pos h]at jI;rw[pF,jI]
   have no:(c == 10||(c == 13&&(decide (i+1=n)||!(d == 10))))=false->P i++[.agg [.val (.int .i64 a),.val (.int .i64 (b+1))]]=P (i+1):=fun h=>by
    rw[if_neg (by rw[h];decide)]at jI;rw[pF,jI]
   clear jI pF;have hbd0:=k6;have hA:std.int (std.nth (std.drp (std.cel (std.at_ (P i) i)) 0) 0)=a:=by rw[hPi];rfl
   have hB:std.int (std.nth (std.drp (std.cel (std.at_ (P i) i)) 0) 1)=b:=by rw[hPi];rfl
   have hAB:(std.all [std.hasI .i64 (std.nth (std.drp (std.cel (std.at_ (P i) i)) 0) 0),std.hasI .i64 (std.nth (std.drp (std.cel (std.at_ (P i) i)) 0) 1)]).q:=by rw[hPi];exact⟨rfl,rfl,trivial⟩
   have hX:std.int (std.nth (std.cel (std.at_ (Q0 l) i)) 0)=c:=by
    have e:std.at_ (Q0 l) i=.val (.int .i32 c):=by
     show(Q0 l).getD i.toNat .dead=_
     rw[List.getD_eq_getElem?_getD];exact hx
    rw[e];rfl
   have yT:(std.all [std.hasI .i32 (std.nth (std.cel (std.at_ (Q0 l) i)) 0)]).q:=by
    have e:std.at_ (Q0 l) i=.val (.int .i32 c):=by
     show(Q0 l).getD i.toNat .dead=_
     rw[List.getD_eq_getElem?_getD];exact hx
    rw[e];exact⟨rfl,trivial⟩
   have xy:i+1<n->std.int (std.nth (std.cel (std.at_ (Q0 l) (std.add i 1))) 0)=d/\(std.all [std.hasI .i32 (std.nth (std.cel (std.at_ (Q0 l) (std.add i 1))) 0)]).q:=fun h=>by
    have e:std.at_ (Q0 l) (std.add i 1)=.val (.int .i32 d):=by
     show(Q0 l).getD (i+1).toNat .dead=_
     rw[List.getD_eq_getElem?_getD];exact yD h
    rw[e];exact⟨rfl,rfl,trivial⟩
   have jR:(std.inb i (std.len (Q0 l))).q:=by
    show 0<=i/\i<std.len (Q0 l);rw[jB];exact⟨jK,jA⟩
   have hinP:(std.inb i (std.len (P i))).q:=by
    show 0<=i/\i<std.len (P i);rw[k6];omega
   have zw:∀z:AV,(std.bnd (P i) [z]).q:=fun z=>by
    have:((P i).length:Int)=i+1:=k6
    show(P i).length+1<=1000000000
    omega
   have zY:(std.inR .i64 (std.add i 1)).q:=(show(-9223372036854775808:Int)<=i+1/\i+1<=(9223372036854775807:Int) from by omega)
   have k7:(std.inR .i64 (std.add a 1)).q:=(show(-9223372036854775808:Int)<=a+1/\a+1<=(9223372036854775807:Int) from by omega)
   have pG:(std.inR .i64 (std.add b 1)).q:=(show(-9223372036854775808:Int)<=b+1/\b+1<=(9223372036854775807:Int) from by omega)
   have hmu:(n-(i+1)).toNat<(n-i).toNat:=by omega
   have hJ:0<=i+1/\i+1<=n:=by omega
   clear hx yD hPi k6;rw[<-hA]at yes no k7;rw[<-hB]at no pG;rw[<-hX]at yes no;clear hA hB cj;with_reducible refine cv1 (Q0 l) ?_
   refine⟨fun _=>⟨hinP,hAB,jR,yT,fun ju=>?_,fun ju=>⟨jR,yT,fun zr=>⟨zY,fun vS=>?_,fun vS=>?_⟩,fun zr=>?_⟩⟩,fun h=>absurd (jb.symm.trans h) (by decide)⟩
   ·have e1:=yes (by have h:(std.int (std.nth (std.cel (std.at_ (Q0 l) i)) 0) == 10)=true:=ju;rw[h];rfl)
    refine⟨k7,zw _,zY,i+1,hJ,hmu,[some 0],_,rfl,?_⟩;exact eq1 e1
   ·have e1:=yes (by have h:(std.int (std.nth (std.cel (std.at_ (Q0 l) i)) 0) == 13)=true:=zr;have h2:i+1=n:=by { have this:std.len (Q0 l)<=i+1:=of_decide_eq_true vS;rw[jB]at this;omega };rw[h,decide_eq_true h2];simp)
    refine⟨k7,zw _,zY,i+1,hJ,hmu,[some 0],_,rfl,?_⟩;exact eq1 e1
   ·have vu:i+1<n:=by
     have h3:¬std.len (Q0 l)<=i+1:=of_decide_eq_false vS;rw[jB]at h3;omega
    obtain⟨k1,k2⟩:=xy vu
    have hin1:(std.inb (std.add i 1) (std.len (Q0 l))).q:=by
     show 0<=i+1/\i+1<std.len (Q0 l);rw[jB];omega
    refine⟨zY,hin1,k2,fun yu=>?_,fun yu=>?_⟩
    ·have e1:=yes (by have h:(std.int (std.nth (std.cel (std.at_ (Q0 l) i)) 0) == 13)=true:=zr;have h2:(!(d == 10))=true:=by { rw[<-k1];exact yu };rw[h,h2];simp)
     refine⟨k7,zw _,zY,i+1,hJ,hmu,[some 0],_,rfl,?_⟩;exact eq1 e1
    ·have e1:=no (by have h0:(std.int (std.nth (std.cel (std.at_ (Q0 l) i)) 0) == 10)=false:=ju;have h2:(!(d == 10))=false:=by { rw[<-k1];exact yu };rw[h0,h2,decide_eq_false (by omega)];simp)
     refine⟨pG,zw _,zY,i+1,hJ,hmu,[some 0],_,rfl,?_⟩;exact eq1 e1
   ·have e1:=no (by have h0:(std.int (std.nth (std.cel (std.at_ (Q0 l) i)) 0) == 10)=false:=ju;have h1:(std.int (std.nth (std.cel (std.at_ (Q0 l) i)) 0) == 13)=false:=zr;rw[h0,h1];rfl)
    refine⟨pG,zw _,zY,i+1,hJ,hmu,[some 0],_,rfl,?_⟩;exact eq1 e1
  ·have v8:std.ltI i n=false:=decide_eq_false (by omega)
   have yU:P n=Q2b l (l.length+1):=by rw[hP];show Q2b l (n.toNat+1)=_;congr 2;have:=hn.eq;omega
   rw[jZ]at v8 ⊢;rw[<-yU];clear hPa hPs hPl hP yU;with_reducible refine cv1 (Q0 l) ?_
   refine⟨fun h=>absurd (v8.symm.trans h) (by decide),fun _=>?_⟩
   rw[if_pos trivial];with_reducible refine cv1 (Q0 l) ?_
   exact .pure rfl (.inl rfl)
theorem Qjh(s:ByteArray)(hs:s.size<=300000000):BCall prog 127 [.val (.string s)] [] (.val (.bool (Q3w s.data.toList))) []:=by
 refine BCall.hand (enters_of func127 (by kernel_rfl) rfl) fun w g vs M hL=>?_
 obtain⟨v1,vs1,rfl,k1,hL⟩:=Q13 hL;obtain rfl:=Q2A hL;obtain rfl:=Q31 k1;exact(Qgn s w hs).mono fun e w' ⟨h,hb⟩=>⟨_,h,hb,.val _ rfl⟩
def Qp3(pl:ByteArray->Bool):Nat->List AV->List Ob->Option (AV×List Ob):=fun f args _=>match f,args with
 |127,[.val (.string q)]=>some (.val (.bool (pl q)),[])
 |_,_=>none
def plB(q:ByteArray):Bool:=Q3w q.data.toList
theorem Qfn(q:ByteArray)(hq:q.size<=300000000):BCall prog 73 [.val (.string q)] [] (.tup [.val (.string (Q6e q).1),.val (.bool (Q6e q).2)]) []:=by
 have cP:BCall prog 127 [.val (.string (q.extract 6 q.size))] [] (.val (.bool (plB (q.extract 6 q.size)))) []:=Qjh _ (by rw[ByteArray.size_extract];omega)
 obtain⟨R,hD⟩:=exq (Q6e q);rw[<-hD];refine fnN (Qp3 plB) func73 rfl fun _ _=>?_
 with_reducible refine cv1 plB ?_
 have e6:std.cutS q 6 (std.szS q)=q.extract 6 q.size:=rfl;have ep:6<q.size->Q5t q Q1v=if Q1T q Q1v=true then q.extract 6 q.size else q:=fun _=>rfl
 have big:std.ltI 6 (std.szS q)=true->6<q.size:=fun hs=>by
  have:(6:Int)<(q.size:Int):=of_decide_eq_true hs
  omega
 have pc:6<q.size->std.eqS (std.cutS q 0 6) Q1v=Q1T q Q1v:=fun h=>Qhh (s:=q) (t:=Q1v) (by show 6<=q.size;omega)
 refine⟨fun h=>?_,fun h=>?_⟩
 ·have h:std.eqS q Q94=true:=h
  rw[Q6e,if_pos h]at hD;exact .pure rfl ⟨.inl (by rw[hD]),.inl (by rw[hD]),trivial⟩
 ·have h:std.eqS q Q94=false:=h
  rw[Q6e,if_neg (by rw[h];decide)]at hD
  refine⟨fun hs=>?_,fun hs=>?_⟩
  ·have hb:=big hs
   have kv:=pc hb;refine⟨?_,fun hp=>⟨?_,cP,fun hq=>⟨?_,?_⟩,fun hq=>?_⟩,fun hp=>?_⟩
   ·show(0:Int)<=0/\(0:Int)<=6/\(6:Int)<=(q.size:Int)
    omega
   ·show(0:Int)<=6/\(6:Int)<=(q.size:Int)/\(q.size:Int)<=(q.size:Int)
    omega
   ·show(0:Int)<=6/\(6:Int)<=(q.size:Int)/\(q.size:Int)<=(q.size:Int)
    omega
   ·have hp:Q1T q Q1v=true:=by rw[<-kv];exact hp
    have ec:Q5t q Q1v=q.extract 6 q.size:=by rw[ep hb,if_pos hp]
    have hq:Q3w (q.extract 6 q.size).data.toList=true:=hq;rw[ec,if_pos ⟨hp,hq⟩]at hD;exact .pure rfl ⟨.inl (by rw[hD];rfl),.inl (by rw[hD]),trivial⟩
   ·have hp:Q1T q Q1v=true:=by rw[<-kv];exact hp
    have ec:Q5t q Q1v=q.extract 6 q.size:=by rw[ep hb,if_pos hp]
    have hq:Q3w (q.extract 6 q.size).data.toList=false:=hq;rw[ec,if_neg (fun h2=>by rw[hq]at h2;exact absurd h2.2 (by decide))]at hD
    exact .pure rfl ⟨.inl (by rw[hD]),.inl (by rw[hD]),trivial⟩
   ·have hp:Q1T q Q1v=false:=by rw[<-kv];exact hp
    rw[if_neg (fun h2=>by rw[hp]at h2;exact absurd h2.1 (by decide))]at hD
    exact .pure rfl ⟨.inl (by rw[hD]),.inl (by rw[hD]),trivial⟩
  ·have zB:q.size<=6:=by
    have:¬(6:Int)<(q.size:Int):=of_decide_eq_false hs
    omega
   have v4:¬(Q1T q Q1v=true/\Q3w (Q5t q Q1v).data.toList=true):=fun⟨h1,h2⟩=>by
    have e:(Q5t q Q1v).data.toList=[]:=by
     have hz:(Q5t q Q1v).size=0:=by
      rw[Q5t,if_pos h1,ByteArray.size_extract];show min q.size q.size-6=0;omega
     exact List.eq_nil_of_length_eq_zero hz
    rw[e]at h2;exact absurd h2 (by decide)
   rw[if_neg v4]at hD;exact .pure rfl ⟨.inl (by rw[hD]),.inl (by rw[hD]),trivial⟩
