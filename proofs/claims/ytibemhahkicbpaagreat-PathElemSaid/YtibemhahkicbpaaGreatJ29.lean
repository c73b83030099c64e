/- Lemmas, conditions told -/
import Derived.Test.YtibemhahkicbpaaGreatJ28
set_option maxRecDepth 99999
set_option maxHeartbeats 0
set_option linter.unusedSimpArgs false
set_option linter.unusedVariables false
namespace Go.Proofs.YtibemhahkicbpaaGreat
open Go.RowKit Go.Lib
section
open Tryz
def Un(l:List Int):Prop:=∀x∈l,-1<=x/\x<=1114111
theorem Un.i32{l:List Int}(h:Un l):I32 l:=fun x hx=>by have:=h x hx;omega
theorem Un.at_{l:List Int}(h:Un l)(i:Int)(h0:0<=i)(h1:i<l.length):-1<=l[i.toNat]?.getD 0/\l[i.toNat]?.getD 0<=1114111:=by
 rw[List.getElem?_eq_getElem (by omega)]
 exact h _ (List.getElem_mem _)
def Q5c(l:List Int)(k:Nat):Nat×Nat×Bool:=if Q1y l (k+1) (Qj l (k+1))=true then(2,k+2+Qj l (k+1),true)else(11,k+1,false)
theorem Qe0{l:List Int}{k:Nat}(h:Q6 l k [38,35,120]=true):Q6 l k [38,35]=true:=by
 unfold Q6 at h ⊢;rw[Bool.and_eq_true,beq_iff_eq]at h;rw[Bool.and_eq_true,beq_iff_eq];refine⟨by decide,?_⟩
 have h2:=congrArg (List.take 2) h.2;rw[List.take_take]at h2;exact h2
theorem Q7b{l:List Int}{k:Nat}{bs:List UInt8}(h:Q6 l k bs=true){i:Nat}(hi:i<bs.length):l[k+i]?=some ((bs[i].toNat:Nat):Int):=by
 unfold Q6 at h;rw[Bool.and_eq_true,beq_iff_eq]at h;have h2:=congrArg (fun z=>z[i]?) h.2
 simp only[List.getElem?_take,List.getElem?_drop,if_pos hi]at h2;rw[h2,bi,List.getElem?_map,List.getElem?_eq_getElem hi];rfl
theorem Qo9{l:List Int}{k:Nat}(h:Q6 l k [38,35]=false):Q1n l k=Q5c l k:=by
 have h2:Q6 l k [38,35,120]=false:=by
  cases h3:Q6 l k [38,35,120]with
  |false=>rfl
  |true=>rw[Qe0 h3]at h;cases h
 rw[Q1n,h,h2];rfl
theorem Qpb{l:List Int}{k:Nat}(h:Q6 l k [38,35,120]=true):Q1n l k=if Q1y l (k+3) (Q62 l k)=true then(3,k+4+Q62 l k,true)else Q5c l k:=by
 have h3:l[k+2]?=some 120:=Q7b h (i:=2) (by decide)
 have hd:Q5o l k=0:=by
  obtain⟨hl,e⟩:=List.getElem?_eq_some_iff.1 h3;rw[Q5o,List.drop_eq_getElem_cons hl,e];rfl
 rw[Q1n,h,hd];cases Q1y l (k+3) (Q62 l k)with
 |true=>rfl
 |false =>
  rw[show Q1y l (k+2) 0=false from rfl];simp only[Bool.and_false,Bool.false_eq_true,if_false];rfl
theorem Qpr{l:List Int}{k:Nat}(h1:Q6 l k [38,35]=true)(h2:Q6 l k [38,35,120]=false):Q1n l k=if Q1y l (k+2) (Q5o l k)=true then(3,k+3+Q5o l k,true)else Q5c l k:=by
 rw[Q1n,h1,h2];cases Q1y l (k+2) (Q5o l k)<;>rfl
theorem QY{l:List Int}{p:Nat}{m:Nat}:Q1y l p m=true↔0<m/\p+m<l.length/\l[p+m]?.getD 0=59:=by
 unfold Q1y;rw[Bool.and_eq_true,decide_eq_true_eq,beq_iff_eq];constructor
 ·rintro⟨h1,h2⟩
  have h3:=List.getElem?_eq_some_iff.1 h2;exact⟨h1,h3.1,by rw[h2];rfl⟩
 ·rintro⟨h1,h2,h3⟩
  rw[List.getElem?_eq_getElem h2]at h3 ⊢;exact⟨h1,congrArg some h3⟩
def QcH(base:Int)(r:Int):Bool:=decide (0<=Q1t r base)
theorem QbP(r:Int):Q6n r=true↔48<=r/\r<=57:=by
 unfold Q6n Q5u;split
 ·simp only[Bool.false_eq_true,false_iff];omega
 ·simp only[true_iff];omega
theorem Qia(r:Int):Q7w r=true↔(97<=r/\r<=102)\/(65<=r/\r<=70)\/(48<=r/\r<=57):=by
 unfold Q7w QaY;split
 ·simp only[true_iff];omega
 ·split
  ·simp only[true_iff];omega
  ·have:=QbP r
   unfold Q6n at this;rw[this];omega
theorem Qhz(r:Int):QlR (isF r 48 57) (isF r 97 102) (isF r 65 70) r=if 65<=r/\r<=70 then r-55 else if 97<=r/\r<=102 then r-87 else if 48<=r/\r<=57 then r-48 else -1:=by
 unfold QlR;simp only[Qjy]
theorem Qn5(r:Int):QcH 10 r=Q6n r:=by
 rw[Bool.eq_iff_iff,QbP,QcH,decide_eq_true_eq,Q1t,Qhz];generalize hv:(if 65<=r/\r<=70 then r-55 else if 97<=r/\r<=102 then r-87 else if 48<=r/\r<=57 then r-48 else -1)=v;split at hv
 ·split<;>omega
 ·split at hv
  ·split<;>omega
  ·split at hv<;>(split<;>omega)
theorem Qm6(r:Int):QcH 16 r=Q7w r:=by
 rw[Bool.eq_iff_iff,Qia,QcH,decide_eq_true_eq,Q1t,Qhz];generalize hv:(if 65<=r/\r<=70 then r-55 else if 97<=r/\r<=102 then r-87 else if 48<=r/\r<=57 then r-48 else -1)=v;split at hv
 ·split<;>omega
 ·split at hv
  ·split<;>omega
  ·split at hv<;>(split<;>omega)
def Q27(l:List Int)(base a:Int):Nat:=((l.drop a.toNat).takeWhile (QcH base)).length
theorem Q6T{l:List Int}{base i:Int}(h0:0<=i)(h1:i<l.length)(h:0<=Q1t (l[i.toNat]?.getD 0) base):Q27 l base i=Q27 l base (i+1)+1:=by
 obtain⟨hl,e⟩:=Q5r h0 h1;rw[e]at h;rw[Q27,Q27,List.drop_eq_getElem_cons hl,List.takeWhile_cons,if_pos (by rw[QcH];exact decide_eq_true h),List.length_cons,show(i+1).toNat=i.toNat+1 by omega]
theorem Q3H{l:List Int}{base i:Int}(h0:0<=i)(h:i<l.length->¬0<=Q1t (l[i.toNat]?.getD 0) base):Q27 l base i=0:=by
 by_cases h1:i<l.length
 ·obtain⟨hl,e⟩:=Q5r h0 h1
  have h:=h h1;rw[e]at h;rw[Q27,List.drop_eq_getElem_cons hl,List.takeWhile_cons,if_neg (by rw[QcH];simpa using h)];rfl
 ·rw[Q27,List.drop_of_length_le (by omega)];rfl
theorem QmJ(l:List Int)(k:Nat):Q27 l 10 ((k:Int)+2)=Q5o l k:=by
 rw[Q27,Q5o,show((k:Int)+2).toNat=k+2 by omega,show QcH 10=Q6n from funext Qn5]
theorem QmA(l:List Int)(k:Nat):Q27 l 16 ((k:Int)+3)=Q62 l k:=by
 rw[Q27,Q62,show((k:Int)+3).toNat=k+3 by omega,show QcH 16=Q7w from funext Qm6]
theorem Q9E{l:List Int}{k:Nat}(h1:Q6 l k [38,35]=true)(base a:Int)(hb:(Q6 l k [38,35,120]=true/\base=16/\a=(k:Int)+3)\/(Q6 l k [38,35,120]=false/\base=10/\a=(k:Int)+2)) :
  Q1n l k=if Q1y l a.toNat (Q27 l base a)=true then(3,a.toNat+Q27 l base a+1,true)else Q5c l k:=by
 rcases hb with ⟨h2,rfl,rfl⟩|⟨h2,rfl,rfl⟩
 ·rw[Qpb h2,QmA,show((k:Int)+3).toNat=k+3 by omega,show k+3+Q62 l k+1=k+4+Q62 l k by omega]
 ·rw[Qpr h1 h2,QmJ,show((k:Int)+2).toNat=k+2 by omega,show k+2+Q5o l k+1=k+3+Q5o l k by omega]
def Q3j(s1 s2:Bool)(dg:Int->Int->Int)(m:Int):Nat->List AV->List Ob->Option (AV×List Ob):=fun f args _=>match f,args with
 |1000011,_=>some (.val (.bool s1),[])
 |1000016,_=>some (.val (.bool s2),[])
 |199,[.val (.int .i32 r),.val (.int .i64 b)]=>some (.val (.int .i64 (dg r b)),[])
 |188,[.slc 1 _,.val (.int .i64 _)]=>some (.val (.int .i64 m),[])
 |_,_=>none
theorem Q3P{l:List Int}{k m:Int}(h0:0<=k)(hm:m=(Qj l (k.toNat+1):Nat))(h1:0<m)(h2:k+1+m<l.length)(h3:l[(k+1+m).toNat]?.getD 0=59):Q5c l k.toNat=(2,(k+m+2).toNat,true):=by
 rw[Q5c,if_pos (QY.2 ⟨by omega,by omega,by rw[<-h3];congr 2;omega⟩)]
 congr 2
 omega
theorem Q2o{l:List Int}{k m:Int}(h0:0<=k)(hm:m=(Qj l (k.toNat+1):Nat))(h:¬(0<m/\k+1+m<l.length/\l[(k+1+m).toNat]?.getD 0=59)):Q5c l k.toNat=(11,(k+1).toNat,false):=by
 rw[Q5c,if_neg (fun he=>h ?_),show(k+1).toNat=k.toNat+1 by omega]
 obtain⟨e1,e2,e3⟩:=QY.1 he;exact⟨by omega,by omega,by rw[<-e3];congr 2;omega⟩
theorem QmU(l:List Int)(hl:l.length<=1000000000)(hu:Un l)(k:Int)(h0:0<=k)(h1:k<l.length)(jM:Q6 l k.toNat [38,35]=false):BCall prog 157 [.slc 1 (Q0 l),.val (.int .i64 k)] [] (Q1B ((Q1n l k.toNat).1:Nat) k ((Q1n l k.toNat).2.1:Nat) (Q1n l k.toNat).2.2) []:=by
 have c1:BCall prog 151 [.slc 1 (Q0 l),.val (.int .i64 k),.val (.string ⟨#[38,35]⟩)] [] (.val (.bool (Q6 l k.toNat [38,35]))) []:=Qc l hl hu.i32 k h0 (by omega) ⟨#[38,35]⟩ (by decide)
 have c2:BCall prog 151 [.slc 1 (Q0 l),.val (.int .i64 k),.val (.string ⟨#[38,35,120]⟩)] [] (.val (.bool (Q6 l k.toNat [38,35,120]))) []:=Qc l hl hu.i32 k h0 (by omega) ⟨#[38,35,120]⟩ (by decide)
 have cL:=Q4G l hl (k+1) (by omega) (by omega)
 rw[show(k+1).toNat=k.toNat+1 by omega]at cL
 have jJ:Qj l (k.toNat+1)<=l.length:=by
  unfold Qj;split
  ·omega
  ·split
   ·have:=(List.takeWhile_sublist Qq (l:=l.drop (k.toNat+1))).length_le
    rw[List.length_drop]at this;omega
   ·omega
 obtain⟨n,hn⟩:=QE l;have jq:=Qx l;have jh:k<n:=by have:=hn.eq;omega
 have qA:n<=1000000000:=by have:=hn.eq;omega
 obtain⟨m,vi⟩:=exq ((Qj l (k.toNat+1):Nat):Int);have qR:0<=m:=by omega
 have vK:m<=n:=by have:=hn.eq;omega
 rw[<-vi]at cL;have hD:∀i:Int,0<=i->i<n->∀base,BCall prog 199 [.val (.int .i32 (l[i.toNat]?.getD 0)),.val (.int .i64 base)] [] (.val (.int .i64 (Q1t (l[i.toNat]?.getD 0) base))) []:=fun i i0 i1 base=>Q4Y _ base (hu.at_ i i0 (by have:=hn.eq;omega))
 obtain⟨kd,jD⟩:=exq (((Q1n l k.toNat).1:Nat):Int);obtain⟨tt,jF⟩:=exq (((Q1n l k.toNat).2.1:Nat):Int);obtain⟨ww,jN⟩:=exq ((Q1n l k.toNat).2.2:Bool);rw[<-jD,<-jF,<-jN,Q1B];clear jJ;have jY:=Qo9 jM;rw[jM]at c1;clear jM c2 hD;by_cases gy:0<m
 ·by_cases vn:k+1+m<n
  ·have h2l:k+1+m<l.length:=by have:=hn.eq;omega
   have am:=QJ (l:=l) (i:=k+1+m) (by omega) h2l
   by_cases h59:l[(k+1+m).toNat]?.getD 0=59
   ·have h9:=h2l
    have hT:=Q3P h0 vi gy h2l h59;rw[jY,hT]at jD jF jN;have jD:kd=2:=jD;have jF:tt=k+m+2:=by rw[jF];show(((k+m+2).toNat:Nat):Int)=_;omega
    have jN:ww=true:=jN;clear hT jY vi;refine fnN (Q3j false false Q1t m) func157 rfl fun _ _=>?_
    with_reducible refine cv2 (Q0 l) Q1t ?_
    have jB:=Q15 hn;with_reducible repeat' first|refine aU (zA jB <| zA gy <| zA vn <| zA am <| zA h59 <| zA h0 jh) ?_|refine zA ?_ ?_|intro hb
    all_goals exact .pure rfl ⟨.inl (by rw[jD]),.inl rfl,.inl (by first|(rw[jF];done)|(rw[jF];rfl)),.inl (by rw[jN]),trivial⟩
   ·have h9:=h2l
    have hT:=Q2o h0 vi (fun h=>h59 h.2.2)
    rw[jY,hT]at jD jF jN;have jD:kd=11:=jD;have jF:tt=k+1:=by rw[jF];show(((k+1).toNat:Nat):Int)=_;omega
    have jN:ww=false:=jN;clear hT jY vi;refine fnN (Q3j false false Q1t m) func157 rfl fun _ _=>?_
    with_reducible refine cv2 (Q0 l) Q1t ?_
    have jB:=Q15 hn;with_reducible repeat' first|refine aU (zA jB <| zA gy <| zA vn <| zA am <| zA h59 <| zA h0 jh) ?_|refine zA ?_ ?_|intro hb
    all_goals exact .pure rfl ⟨.inl (by rw[jD]),.inl rfl,.inl (by first|(rw[jF];done)|(rw[jF];rfl)),.inl (by rw[jN]),trivial⟩
  ·have h9:=gy
   have hT:=Q2o h0 vi (fun h=>vn (by have:=hn.eq;have:=h.2.1;omega))
   rw[jY,hT]at jD jF jN;have jD:kd=11:=jD;have jF:tt=k+1:=by rw[jF];show(((k+1).toNat:Nat):Int)=_;omega
   have jN:ww=false:=jN;clear hT jY vi;refine fnN (Q3j false false Q1t m) func157 rfl fun _ _=>?_
   with_reducible refine cv2 (Q0 l) Q1t ?_
   have jB:=Q15 hn;with_reducible repeat' first|refine aU (zA jB <| zA gy <| zA vn <| zA h0 jh) ?_|refine zA ?_ ?_|intro hb
   all_goals exact .pure rfl ⟨.inl (by rw[jD]),.inl rfl,.inl (by first|(rw[jF];done)|(rw[jF];rfl)),.inl (by rw[jN]),trivial⟩
 ·have h9:=h0
  have hT:=Q2o h0 vi (fun h=>gy h.1)
  rw[jY,hT]at jD jF jN;have jD:kd=11:=jD;have jF:tt=k+1:=by rw[jF];show(((k+1).toNat:Nat):Int)=_;omega
  have jN:ww=false:=jN;clear hT jY vi;refine fnN (Q3j false false Q1t m) func157 rfl fun _ _=>?_
  with_reducible refine cv2 (Q0 l) Q1t ?_
  have jB:=Q15 hn;with_reducible repeat' first|refine aU (zA jB <| zA gy <| zA h0 jh) ?_|refine zA ?_ ?_|intro hb
  all_goals exact .pure rfl ⟨.inl (by rw[jD]),.inl rfl,.inl (by first|(rw[jF];done)|(rw[jF];rfl)),.inl (by rw[jN]),trivial⟩
end
theorem QbS{r:Int}(h:Qq r=true):0<Qr r:=by
 rcases(by simpa[Qq]using h:Qp r=true\/Q7Z r moreSp=true)with h|h
 ·exact QaM h
 ·have key:∀x∈moreSp,0<=x.1/\x.2<=1114111/\(x.2<55296\/57343<x.1):=by decide
  obtain⟨x,hx,hr⟩:=List.any_eq_true.1 (show moreSp.any (fun x=>decide (x.1<=r)&&decide (r<=x.2))=true from h)
  have hk:=key x hx;simp only[Bool.and_eq_true,decide_eq_true_eq]at hr;unfold Qr;repeat' split
  all_goals omega
theorem QaA(x:List Int):∀r∈x.take (Qj x 0),Qq r=true:=fun r hr=>by
 cases x with
 |nil=>simp at hr
 |cons a t =>
  have e:Qj (a::t) 0=if Qp a then((a::t).takeWhile Qq).length else 0:=rfl;rw[e]at hr;split at hr
  ·have e2:(a::t).take ((a::t).takeWhile Qq).length=(a::t).takeWhile Qq:=by
    have:=List.takeWhile_append_dropWhile (p:=Qq) (l:=a::t)
    conv=>lhs;arg 2;rw[<-this]
    rw[List.take_left]
   rw[e2]at hr;exact List.all_eq_true.1 (List.all_takeWhile (p:=Qq) (l:=a::t)) r hr
  ·simp at hr
theorem QfF(t:Txt){f u:Int}(h0:0<=f)(h1:f<=u)(h2:u<=t.r.length):∀r∈Qs t f u,Qq r=true:=by
 obtain⟨s,hs⟩:=exq ((t.r.drop f.toNat).take (u-f).toNat);have nT:=Qg4 t h0 h1 h2;rw[<-hs]at nT;rw[<-nT]
 have e1:QS s 0 s.length=QB 0 true s:=by
  unfold QS;rw[Int.toNat_natCast,List.take_length];rfl
 have en:Qhk s=(s.drop (Q1l (QB 0 true s)).name.from_.toNat).take ((Q1l (QB 0 true s)).name.to-(Q1l (QB 0 true s)).name.from_).toNat:=by
  have e2:QD s 0 s.length=Q1l (QB 0 true s):=by rw[QD,e1]
  show(s.drop (QD s 0 s.length).name.from_.toNat).take ((QD s 0 s.length).name.to-(QD s 0 s.length).name.from_).toNat=_
  rw[e2]
 rw[Qa9]at en;split at en
 ·rename_i ht
  have zE:=(Q29 (Nat.zero_le _)).1 ht;have hl:2<=(QB 0 true s).length:=by simpa using zE.1
  have jo:((QB 0 true s)[1]?.getD Qm).kind=2:=zE.2 1 (by decide)
  have q8:s≠[]:=by
   intro h;rw[h,QB,dif_pos rfl]at hl;simp at hl
  have jt:=Q3n s true q8;rw[Q2f q8]at hl jo en;obtain⟨x,hx⟩:=exq (s.drop (Qt s true).2.toNat);rw[<-hx]at hl jo en
  have yG:x≠[]:=by
   intro h;rw[h,QB,dif_pos rfl]at hl;simp at hl
  have vL:=Q3n x false yG;rw[Q2f yG]at jo en;have jo:(Qt x false).1=2:=jo;have en:Qhk s=(s.drop (0+(Qt s true).2).toNat).take ((0+(Qt s true).2+(Qt x false).2)-(0+(Qt s true).2)).toNat:=en;rw[show(0+(Qt s true).2).toNat=(Qt s true).2.toNat by omega,<-hx,show((0+(Qt s true).2+(Qt x false).2)-(0+(Qt s true).2)).toNat=(Qt x false).2.toNat by omega]at en
  have jG:(Qt x false).2=(Qj x 0:Int):=by
   unfold Qt at jo ⊢;rw[if_neg (by simp),if_neg (by simp)]at jo ⊢
   split at jo
   ·simp at jo
   ·rename_i h3
    rw[if_neg h3];split at jo
    ·rename_i h;rw[if_pos h]
    ·split at jo
     ·simp at jo
     ·split at jo
      ·simp at jo
      ·split at jo<;>simp at jo
  rw[en,jG,Int.toNat_natCast];exact QaA x
 ·rw[en]
  intro r hr;simp[Qm]at hr
theorem Qcf(t:Txt){f u:Int}(h0:0<=f)(h1:f<=u)(h2:u<=t.r.length):∀r∈Qs t f u,0<Qr r:=fun r hr=>QbS (QfF t h0 h1 h2 r hr)
theorem Qat{l:List Int}(h:∀x∈l,0<Qr x):(runesBytes l).data.toList=Q10 l:=by
 rw[Q5l,Q10];refine congrArg List.flatten (List.map_congr_left fun x hx=>?_)
 have hx:=h x hx;rw[Qcy x hx,Q2I,if_neg (by omega)]
theorem QfS{l l':List Int}(h:∀x∈l,0<Qr x)(h':∀x∈l',0<Qr x)(e:Q10 l=Q10 l'):l=l':=by
 have h1:=Q9Z l 0 h;have h2:=Q9Z l' 0 h';rw[e]at h1;have:=congrArg (List.map Itm.r) (h1.symm.trans h2)
 rwa [Ql6,Ql6]at this
theorem QlG{l l':List Int}(h:∀x∈l,0<Qr x)(h':∀x∈l',0<Qr x):std.eqS (runesBytes l) (runesBytes l')=decide (l=l'):=by
 show((runesBytes l).toList == (runesBytes l').toList)=_
 rw[ByteArray.toList_eq,ByteArray.toList_eq,Qat h,Qat h',Bool.eq_iff_iff,beq_iff_eq,decide_eq_true_iff];exact⟨QfS h h',fun e=>by rw[e]⟩
theorem Qn1{l:List Int}(h:∀x∈l,0<Qr x):std.eqS (runesBytes l) ⟨#[]⟩=decide (l=[]):=by
 have e:(runesBytes []).data.toList=[]:=by rw[Q5l];rfl
 have:=QlG h (l':=[]) (fun x hx=>by cases hx)
 rw[<-this];show((runesBytes l).toList == _)=((runesBytes l).toList == _)
 rw[ByteArray.toList_eq (bs:=runesBytes []),e,ByteArray.toList_eq (bs:=⟨#[]⟩)]
theorem Qkv(big:Bool)(l:List UInt8):-1<=(Q1j big l).1/\(Q1j big l).1<=1114111:=by
 match l with
 | []=>exact⟨by show(-1:Int)<=-1;decide,by show(-1:Int)<=1114111;decide⟩
 | [_]=>exact⟨by show(-1:Int)<=-1;decide,by show(-1:Int)<=1114111;decide⟩
 | [x,y] =>
  have h1:=Q33 big x y;simp only[Q1j];split<;>simp only<;>omega
 | [x,y,z] =>
  have h1:=Q33 big x y;simp only[Q1j];split<;>simp only<;>omega
 |x::y::x2::y2::r =>
  have h1:=Q33 big x y;have h2:=Q33 big x2 y2;simp only[Q1j];split
  ·simp only;omega
  ·split<;>simp only<;>omega
theorem QcS(big:Bool):∀(n:Nat)(off:Int)(l:List UInt8),l.length<=n->∀x∈Q1x big off l,-1<=x.r/\x.r<=1114111
 |0,off,l,h=>fun x hx=>by
  have:l=[]:=List.eq_nil_of_length_eq_zero (by omega)
  subst this;rw[Q1x,dif_pos rfl]at hx;cases hx
 |n+1,off,l,h=>fun x hx=>by
  by_cases hl:l=[]
  ·subst hl
   rw[Q1x,dif_pos rfl]at hx;cases hx
  ·have hs:=Q6Z big l hl
   rw[Q1x,dif_neg hl]at hx;rcases List.mem_cons.1 hx with rfl|hx
   ·exact Qkv big l
   ·exact QcS big n _ _ (by rw[List.length_drop];omega) x hx
theorem Qev:∀(n off:Nat)(l:List UInt8),∀x∈(Q1u n off l).map Qb7,-1<=x.r/\x.r<=1114111
 |0,_,_=>fun x hx=>by cases hx
 |_+1,_,[]=>fun x hx=>by cases hx
 |n+1,off,b::t=>fun x hx=>by
  rcases List.mem_cons.1 (show x∈_::(Q1u n _ _).map Qb7 from hx)with rfl|hx
  ·exact Q4D (b::t)
  ·exact Qev n _ _ x hx
theorem QgK(b:List UInt8):Un (Qb b).r:=fun r hr=>by
 obtain⟨x,hx,rfl⟩:=List.mem_map.1 (show r∈(Q2V b).map Itm.r from hr);rw[Q2V]at hx;rcases Q54 b with h|h|h
 ·rw[Q4B,if_pos h]at hx;exact Qev _ _ _ x hx
 ·rw[Q4B,if_neg (by omega),if_pos h]at hx;exact QcS true _ _ _ (Nat.le_refl _) x hx
 ·rw[Q4B,if_neg (by omega),if_neg (by omega),if_pos h]at hx;exact QcS false _ _ _ (Nat.le_refl _) x hx
