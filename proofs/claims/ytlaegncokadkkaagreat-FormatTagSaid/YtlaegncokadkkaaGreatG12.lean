/- Lemmas, conditions told -/
import Derived.Test.YtlaegncokadkkaaGreatG10
import Derived.Laws.StructEq
import Derived.WideShapes
set_option maxRecDepth 99999
set_option maxHeartbeats 0
set_option linter.unusedSimpArgs false
set_option linter.unusedVariables false
namespace Go.Proofs.YtlaegncokadkkaaGreat
open List(length_take length_drop map_take map_drop map_cons mem_map)
open Go.RowKit Go.Lib
section
open Tryz
structure TPart where
 kind:Int
 from_:Int
 to:Int
 deriving Inhabited
def TPart.av(x:TPart):AV:=.agg [.val (.int .i64 x.kind),.val (.int .i64 x.from_),.val (.int .i64 x.to)]
def Q3(l:List TPart):List AV:=l.map TPart.av
def Qe:TPart:=⟨0,0,0⟩
theorem QK(l:List TPart):(Q3 l).length=l.length:=by simp[Q3]
theorem Q9g(a b:List TPart):Q3 (a++b)=Q3 a++Q3 b:=by simp[Q3]
theorem Q7c(x:TPart):Q3 [x]=[.agg [.val (.int .i64 x.kind),.val (.int .i64 x.from_),.val (.int .i64 x.to)]]:=rfl
theorem Q1A{l:List TPart}{i:Int}(h0:0<=i)(h1:i<l.length):(Q3 l)[i.toNat]?.getD .dead=(l[i.toNat]?.getD Qe).av:=QjU TPart.av h0 h1 Qe
def Qz(l:List TPart)(a:Nat)(ks:List Int):Bool:=((l.drop a).take ks.length).map TPart.kind == ks
theorem Q2Y{l:List TPart}{a:Nat}{ks:List Int}(ha:a<=l.length):Qz l a ks=true↔(a+ks.length<=l.length/\∀j,j<ks.length->(l[a+j]?.getD Qe).kind=ks[j]?.getD 0):=by
 have at_:a+ks.length<=l.length->∀j,j<ks.length->(((l.drop a).take ks.length).map TPart.kind)[j]?=some (l[a+j]?.getD Qe).kind:=fun h j hj=>by
  have h1:a+j<l.length:=by omega
  simp[List.getElem?_take,List.getElem?_drop,hj,h1]
 rw[Qz,beq_iff_eq];constructor
 ·intro h
  have h1:a+ks.length<=l.length:=by
   have:=congrArg List.length h
   simp only[List.length_map,length_take,length_drop]at this;omega
  refine⟨h1,fun j hj=>?_⟩
  have h2:=at_ h1 j hj;rw[h]at h2;rw[h2];rfl
 ·rintro⟨h1,h2⟩
  refine List.ext_getElem? fun j=>?_
  by_cases hj:j<ks.length
  ·rw[at_ h1 j hj,h2 j hj,List.getElem?_eq_getElem hj];rfl
  ·rw[List.getElem?_eq_none (by simp;omega),List.getElem?_eq_none (by omega)]
theorem Q6d(l:List TPart)(hl:l.length<=1000000000)(a:Int)(h0:0<=a)(h1:a<=l.length)(ks:List Int)(hk:ks.length<=10)(res:AV)(a':Int)
  (hhit:Qz l a.toNat ks=true->res=.slc 3 (Q3 ((l.drop a.toNat).take ks.length))/\a'=a+ks.length) (yN:Qz l a.toNat ks=false->res=.val (.slice none 0 0)/\a'=a) :
  BCall prog 31 [.box 0 0,.slc 1 (Qh ks)] [.box [.slc 3 (Q3 l),.val (.int .i64 a)]] res [.box [.slc 3 (Q3 l),.val (.int .i64 a')]]:=by
 obtain⟨n,hn⟩:=QC l;obtain⟨m,hm⟩:=QC ks;refine fnN (cs0) func31 rfl fun _ _=>?_
 have jw:=QK l;have qE:=Q5C ks;have k9:=Q2Y (l:=l) (a:=a.toNat) (ks:=ks) (by omega)
 with_reducible refine cv2 (Q3 l) (Qh ks) ?_
 have en:=hn.eq;have em:=hm.eq;replace h1:a<=(l.length:Int):=h1;refine⟨?_,fun h=>?_,fun h=>?_⟩
 ·refine(QfM _).2 ?_
  simp only[std,jw];omega
 ·have h:(l.length:Int)-a<ks.length:=by simpa[std,jw,qE]using h
  obtain⟨rfl,rfl⟩:=yN (by
   rw[Bool.eq_false_iff];intro h2;have:=(k9.1 h2).1
   omega)
  exact⟨[some 0],.val (.slice none 0 0),_,rfl,rfl,Nat.le_refl _,rfl,by simp[Qf],.inl rfl⟩
 ·have h:¬(l.length:Int)-a<ks.length:=by simpa[std,jw,qE]using h
  refine Q1p (cs0) (Int) (fun i=>⟨[(0,.box 0 0),(1,.slc 1 (Qh ks)),(21,.slc 1 (Qh ks)),(22,.val (.int .i64 m)),(23,.val (.int .i64 i))],[.box [.slc 3 (Q3 l),.val (.int .i64 a)]]⟩) (fun i=>0<=i/\i<=m/\∀j:Nat,(j:Int)<i->(l[a.toNat+j]?.getD Qe).kind=ks[j]?.getD 0) (fun i=>(m-i).toNat) 0 ?_ ?_ ?_
  ·exact⟨by omega,by omega,fun j hj=>by omega⟩
  ·refine⟨[some 0],_,rfl,?_⟩
   simp[Qf,lk,std,qE,em]
  ·have qw:a+m<=n:=by omega
   clear h;rintro i ⟨qz,him,hi⟩;rcases Int.lt_or_eq_of_le him with jE|jj
   ·have jW:=Q4w (l:=ks) qz (by omega)
    have kz:=Q1A (l:=l) (i:=a+i) (by omega) (by omega)
    have xB:(a+i).toNat=a.toNat+i.toNat:=by omega
    rw[xB]at kz;have gX:∀j:Nat,j<i.toNat->(l[a.toNat+j]?.getD Qe).kind=ks[j]?.getD 0:=fun j hj=>hi j (by omega)
    clear hi;clear en em;with_reducible refine cv2 (Q3 l) (Qh ks) ?_
    have en:=hn.eq;have em:=hm.eq;have hib:a+i<(l.length:Int):=by omega
    repeat' first
     |(with_reducible refine And.intro (fun hx=>absurd hx (by first|(try simp[std,S1,jW,kz,xB,TPart.av,jw,qE,jE,qz,hib])<;>omega|omega)) (fun _=>?_))
     |(with_reducible refine And.intro (fun _=>?_) (fun hx=>absurd hx (by first|(try simp[std,S1,jW,kz,xB,TPart.av,jw,qE,jE,qz,hib])<;>omega|omega)))
     |(with_reducible refine And.intro (by first|(try simp[std,S1,jW,kz,xB,TPart.av,jw,qE,jE,qz,hib])<;>omega|omega) ?_)
     |(with_reducible refine And.intro ?_ ?_)
     |(with_reducible intro hb)
    ·have jL:¬(l[a.toNat+i.toNat]?.getD Qe).kind=ks[i.toNat]?.getD 0:=by
      simpa[std,jW,kz,xB,TPart.av,AV.cells,intOf]using hb
     obtain⟨rfl,rfl⟩:=yN (by
      rw[Bool.eq_false_iff];intro h2;exact jL ((k9.1 h2).2 i.toNat (by omega)))
     with_reducible refine cv2 (Q3 l) (Qh ks) ?_
     exact⟨[some 0],.val (.slice none 0 0),_,rfl,rfl,Nat.le_refl _,rfl,by simp[Qf],.inl rfl⟩
    ·have he:(l[a.toNat+i.toNat]?.getD Qe).kind=ks[i.toNat]?.getD 0:=by
      simpa[std,jW,kz,xB,TPart.av,AV.cells,intOf]using hb
     refine⟨i+1,⟨by omega,by omega,fun j hj=>?_⟩,by omega,[some 0],_,rfl,by simp[Qf,lk,std]⟩
     have hj:(j:Int)<i+1:=hj;by_cases qV:j<i.toNat
     ·exact gX j qV
     ·obtain rfl:j=i.toNat:=by omega
      exact he
   ·obtain⟨rfl,rfl⟩:=hhit (k9.2 ⟨by omega,fun j hj=>hi j (by omega)⟩)
    have jH:std.cut (Q3 l) a (a+m)=Q3 ((l.drop a.toNat).take ks.length):=by
     show((Q3 l).drop a.toNat).take (a+m-a).toNat=_
     rw[show(a+m-a).toNat=ks.length by omega,Q3,Q3,map_take,map_drop]
    have qo:std.len (Qh ks)=m:=by simp only[std,qE,em]
    have ng:a+(ks.length:Int)=a+m:=by omega
    rw[ng,<-jH];clear en em hi;with_reducible refine cv2 (Q3 l) (Qh ks) ?_
    with_reducible repeat' first|refine aU jj ?_|refine And.intro ?_ ?_|intro hb
    rw[if_pos trivial];with_reducible refine cv2 (Q3 l) (Qh ks) ?_
    have en:=hn.eq;have em:=hm.eq
    repeat' first
     |(with_reducible refine And.intro (fun hx=>absurd hx (by first|(try simp[std,S1,qo,jw,qE,<-em])<;>omega|omega)) (fun _=>?_))
     |(with_reducible refine And.intro (fun _=>?_) (fun hx=>absurd hx (by first|(try simp[std,S1,qo,jw,qE,<-em])<;>omega|omega)))
     |(with_reducible refine And.intro (by first|(try simp[std,S1,qo,jw,qE,<-em])<;>omega|omega) ?_)
     |(with_reducible refine And.intro ?_ ?_)
     |(with_reducible intro hb)
    have zD:std.add a (std.len (Qh ks))=a+m:=by rw[qo];rfl
    refine⟨[some 0],.slc 3 (std.cut (Q3 l) a (a+m)),_,rfl,rfl,Nat.le_refl _,rfl,⟨?_,rfl,?_,trivial⟩,.inl rfl⟩
    ·show AV.slc 3 (std.cut (Q3 l) a (std.add a (std.len (Qh ks))))=_
     rw[zD]
    ·show AV.val (.int .i64 (std.add a (std.len (Qh ks))))=_
     rw[zD]
theorem Qj6(l:List Int):0<=Q15 l/\Q15 l<=l.length:=by
 unfold Q15;split
 ·cases h:(l.drop 1).findIdx? (· == l.getD 0 0)with
  |none=>simp
  |some k =>
   have:=(List.findIdx?_eq_some_iff_getElem.1 h).1
   simp at this;simp only;omega
 ·omega
theorem Q5z(l:List Int)(first:Bool)(h:l≠[]):1<=(QE l first).2/\(QE l first).2<=l.length:=by
 have hp:0<l.length:=List.length_pos_iff.2 h;unfold QE;split
 ·rename_i h1
  have:=Q38 l 0 _ (by omega) h1.2
  simp only[List.length_cons,List.length_nil]at this;simp only;omega
 ·split
  ·simp only;omega
  ·split
   ·rename_i h1
    have:Q1R Q8 l 0<=l.length:=by
     rw[Q1R,if_neg (by omega)]
     have:=(List.takeWhile_sublist Q8 (l:=l.drop (0:Int).toNat)).length_le
     simpa using this
    simp only;omega
   ·split
    ·rename_i h1
     have:Ql l 0<=l.length:=by
      unfold Ql;split
      ·omega
      ·split
       ·have:=(List.takeWhile_sublist Qv (l:=l.drop 0)).length_le
        simpa using this
       ·omega
     simp only;omega
    ·split
     ·simp only;omega
     ·split
      ·have:=Qj6 l
       simp only;omega
      ·split<;>(simp only;omega)
def QQ(at_:Int)(first:Bool)(r:List Int):List TPart :=
 if h:r=[]then []else⟨(QE r first).1,at_,at_+(QE r first).2⟩::QQ (at_+(QE r first).2) false (r.drop (QE r first).2.toNat)
termination_by r.length
decreasing_by
 have:=Q5z r first h
 simp only[length_drop];omega
def QI(l:List Int)(from_ to:Int):List TPart:=QQ from_ true ((l.take to.toNat).drop from_.toNat)
def pkA(xs:List AV)(b:Bool):Int:=(QE (xs.map intOf) b).1
def pnA(xs:List AV)(b:Bool):Int:=(QE (xs.map intOf) b).2
theorem Q4n(l:List Int):(Q0 l).map intOf=l:=by
 induction l with
 |nil=>rfl
 |cons x r ih=>rw[Q0,map_cons,map_cons];rw[Q0]at ih;rw[ih];rfl
def QnG(pk pn:List AV->Bool->Int):Nat->List AV->List Ob->Option (AV×List Ob):=fun f args _=>match f,args with
 |51,[.slc 1 xs,.val (.bool b)]=>some (.tup [.val (.int .i64 (pk xs b)),.val (.int .i64 (pn xs b))],[])
 |_,_=>none
theorem QbY(l:List Int)(hl:l.length<=1000000000)(from_ to:Int)(h0:0<=from_)(h1:from_<=to)(h2:to<=l.length) :
  BCall prog 30 [.slc 1 (Q0 l),.val (.int .i64 from_),.val (.int .i64 to)] [] (.slc 3 (Q3 (QI l from_ to))) []:=by
 obtain⟨n,hn⟩:=QC l;have kx:to<=n:=by rw[hn.eq];exact h2
 have zM:n<=1000000000:=by rw[hn.eq];omega
 clear h2;refine fnN (QnG pkA pnA) func30 rfl fun _ _=>?_
 with_reducible refine cv3 pkA pnA (Q0 l) ?_
 have en:=hn.eq;have qI:=Q6 l;have gw:(((Q0 l).length:Nat):Int)=n:=by omega
 with_reducible repeat' first|refine aU (zA gw <| zA h0 <| zA h1 kx) ?_|refine And.intro ?_ ?_|intro hb
 refine Q1p (QnG pkA pnA) (List TPart×Int) (fun x=>⟨[(0,.slc 1 (Q0 l)),(1,.val (.int .i64 from_)),(2,.val (.int .i64 to)),(7,.row 0 0),(8,.val (.int .i64 x.2))],[.row 34 3 false 0 (Q3 x.1)]⟩) (fun x=>from_<=x.2/\x.2<=to/\x.1++QQ x.2 (decide (x.2=from_)) ((l.take to.toNat).drop x.2.toNat)=QI l from_ to/\x.1.length<=x.2.toNat) (fun x=>(to-x.2).toNat) ([],from_) ?_ ?_ ?_
 ·exact⟨by omega,h1,by simp[QI],by simp⟩
 ·exact⟨[none],_,rfl,by simp[Qf,lk,Q3]⟩
 ·rintro⟨out,k⟩ ⟨q8,qU,js,jb⟩
  simp only at q8 qU js jb
  have jP:=QK out;by_cases hk:k<to
  ·obtain⟨r,hr⟩:=exq ((l.take to.toNat).drop k.toNat)
   have cf:r.length=to.toNat-k.toNat:=by rw[hr,length_drop,length_take];omega
   have ka:r≠[]:=by intro h;rw[h]at cf;simp at cf;omega
   have jH:std.cut (Q0 l) k to=Q0 r:=by
    show((Q0 l).drop k.toNat).take (to-k).toNat=_
    rw[hr,Q0,Q0,map_drop,map_take,List.drop_take];congr 1;omega
   obtain⟨first,hf⟩:=exq (decide (k=from_))
   have jj:std.eqI k from_=first:=by
    rw[hf];show(k == from_)=decide (k=from_)
    by_cases h:k=from_<;>simp[h]
   have hpn:=Q5z r first ka
   have hb:=Qll r ka (by omega) first
   obtain⟨K,hK⟩:=exq ((QE r first).1)
   obtain⟨N,hN⟩:=exq ((QE r first).2)
   have xo:pkA (std.cut (Q0 l) k to) (std.eqI k from_)=K:=by rw[jH,jj,pkA,Q4n,hK]
   have xp:pnA (std.cut (Q0 l) k to) (std.eqI k from_)=N:=by rw[jH,jj,pnA,Q4n,hN]
   rw[<-hK,<-hN]at hb
   have hb:BCall prog 51 [.slc 1 (std.cut (Q0 l) k to),.val (.bool (std.eqI k from_))] [] (.tup [.val (.int .i64 (pkA (std.cut (Q0 l) k to) (std.eqI k from_))),.val (.int .i64 (pnA (std.cut (Q0 l) k to) (std.eqI k from_)))]) []:=by
    rw[xo,xp,jH,jj];exact hb
   have hG:out++[⟨K,k,k+N⟩]++QQ (k+N) (decide (k+N=from_)) ((l.take to.toNat).drop (k+N).toNat)=QI l from_ to:=by
    have e1:decide (k+N=from_)=false:=by simp;omega
    have e2:(l.take to.toNat).drop (k+N).toNat=r.drop N.toNat:=by rw[hr,List.drop_drop];congr 1;omega
    have e3:QQ k first r=⟨K,k,k+N⟩::QQ (k+N) false (r.drop N.toNat):=by
     conv=>lhs;rw[QQ]
     rw[dif_neg ka,<-hK,<-hN]
    rw[e1,e2,<-js,<-hf,<-hr,e3];simp
   have xi:1<=N:=by rw[hN];exact hpn.1
   have hN2:k+N<=to:=by rw[hN];omega
   clear hpn hf en;with_reducible refine cv4 pkA pnA (Q0 l) (Q3 out) ?_
   have en:=hn.eq;have zD:std.add k (pnA (std.cut (Q0 l) k to) (std.eqI k from_))=k+N:=by rw[xp];rfl
   have je:std.inR .i64 (std.add k (pnA (std.cut (Q0 l) k to) (std.eqI k from_))):=by
    rw[zD];exact(QfM _).2 (by omega)
   refine⟨fun _=>⟨?_,hb,je,?_,je,(out++[⟨K,k,k+N⟩],k+N),⟨by simp only;omega,hN2,hG,by simp only[List.length_append,List.length_singleton];omega⟩,by simp only;omega,[some 0],_,rfl,?_⟩,fun h=>?_⟩
   ·simp only[std,qI];omega
   ·simp only[std,jP,List.length_singleton];omega
   ·refine⟨rfl,rfl,rfl,rfl,?_,?_,trivial⟩
    ·show AV.val (.int .i64 (std.add k (pnA (std.cut (Q0 l) k to) (std.eqI k from_))))=_
     rw[zD]
    ·show AV.slc 0 (std.app (Q3 out) [.agg [.val (.int .i64 (pkA (std.cut (Q0 l) k to) (std.eqI k from_))),.val (.int .i64 k),.val (.int .i64 (std.add k (pnA (std.cut (Q0 l) k to) (std.eqI k from_))))]])=_
     rw[zD,xo,Q9g,Q7c];rfl
   ·simp[std]at h;omega
  ·have hG:out=QI l from_ to:=by
    have:(l.take to.toNat).drop k.toNat=[]:=List.drop_eq_nil_of_le (by rw[length_take];omega)
    rw[<-js,this,QQ,dif_pos rfl,List.append_nil]
   clear en;with_reducible refine cv4 pkA pnA (Q0 l) (Q3 out) ?_
   with_reducible repeat' first|refine aU hk ?_|refine And.intro ?_ ?_|intro hb
   rw[if_pos trivial];with_reducible refine cv4 pkA pnA (Q0 l) (Q3 out) ?_
   exact .pure rfl (.inl (by rw[hG]))
end
inductive Cur where
 |root (n:Int)
 |kid (n f k:Int) (up:Cur)
 deriving Inhabited
section
variable {P:Program}{ty:Tys}
end
def gl(w:World):Gh:=⟨fun b _=>b<w.heap.size,fun _=>none,fun _=>0,fun _=>false⟩
theorem QkL(w:World):Mem w (gl w) [] :=
 ⟨(fun id cs h=>by simp at h),(fun id cs h=>by simp at h),(fun id y h=>by simp at h),(fun b id h=>by cases h),(fun b o h=>⟨h,fun id h2=>by cases h2⟩),(fun id et sz fz e xs h=>by simp at h),(fun b h=>by cases h),(fun b b' id h=>by cases h)⟩
theorem BCall.law{P:Program}{f:Nat}{vs:List Value}{args:List AV}{res:Value}(h:BCall P f args [] (.val res) [])(w:World)(hL:Q1D w (gl w) [] vs args) :
  Calls P f vs.toArray w fun e w'=>e=.returned res/\Below w.heap.size w w' :=
 (h.2 w (gl w) vs (QkL w) hL).mono fun e w' ⟨v,g',k1,k2,k3,k4⟩=>by
  have hv:v=res:=ARel.valEq (g:=g') (w:=w') (ob:=[]) k3;subst hv;exact⟨k1,k4.os,k4.tape,k4.output,k4.size,fun b hb=>k4.keep b hb rfl⟩
theorem Qih{w:World}{g:Gh}{ob:List Ob}:Q1D w g ob [] []:=⟨rfl,fun j v x h=>by simp at h⟩
theorem Q6q{w:World}{g:Gh}{ob:List Ob}{v:Value}{x:AV}{vs:List Value}{xs:List AV}(h:ARel1 w g ob v x)(hr:Q1D w g ob vs xs):Q1D w g ob (v::vs) (x::xs):=by
 refine⟨by simp[hr.1],fun j u y hu hy=>?_⟩
 cases j with
 |zero =>
  obtain rfl:v=u:=by simpa using hu
  obtain rfl:x=y:=by simpa using hy
  exact h
 |succ j=>exact hr.2 j u y (by simpa using hu) (by simpa using hy)
def IsRowS(k:IntKind)(w:World)(a:Option Addr)(len cap:Nat)(zs:List Int):Prop :=
 (a=none/\len=0/\cap=0/\zs=[]) \/
 ∃x,a=some x/\len<=cap/\cap<=maxLen/\zs.length=cap/\(∀i,i<zs.length->w.cell? (x.add i)=some (.int k (zs.getD i 0)))/\∀n∈zs,(Lit.int k n).wf=true
theorem Qkk{k:IntKind}{w:World}{a:Option Addr}{len cap:Nat}{zs:List Int}(h:IsRowS k w a len cap zs)(hs:∀x,a=some x->x.spot=none) :
  ARel1 w (gl w) [] (.slice a len cap) (.slc 1 ((zs.take len).map fun n=>.val (.int k n))):=by
 have hr:=(QgM h).1
 have hl:len=((zs.take len).map fun n=>AV.val (.int k n)).length:=by
  rcases h with ⟨_,rfl,_,rfl⟩|⟨x,_,h1,_,h2,_⟩
  ·rfl
  ·simp;omega
 refine Qkw hr (fun b o hb=>hb) hl (fun x hx=>by obtain⟨n,_,rfl⟩:=mem_map.1 hx;rfl) (fun x hx=>?_) ?_
 ·obtain⟨b,o,s⟩:=x
  exact⟨b,o,by rw[show s=none from hs _ hx]⟩
 ·have:Qp ((zs.take len).map fun n=>AV.val (.int k n))=((zs.take len).map (Value.int k)).map .val:=by
   generalize zs.take len=l;induction l with
   |nil=>rfl
   |cons n r ih=>simp only[map_cons,Qp,List.flatMap_cons]at ih ⊢;rw[ih];rfl
  rw[this];refine⟨by simp,fun j y u hy hu=>?_⟩
  rw[List.getElem?_map,hy]at hu;obtain rfl:AV.val y=u:=by simpa using hu
  obtain⟨n,_,rfl⟩:=mem_map.1 (List.mem_of_getElem? hy);exact PRel.val _ rfl
theorem QgO{w:World}{a:Option Addr}{len cap:Nat}{zs:List Int}(h:IsRowS .i32 w a len cap zs)(hs:∀x,a=some x->x.spot=none) :
  ARel1 w (gl w) [] (.slice a len cap) (.slc 1 (Q0 (zs.take len))):=Qkk h hs
theorem Qgh{w:World}{v:Value}(h:v.oneCell'=true):ARel1 w (gl w) [] v (.val v):=PRel.val v h
section
open Tryz
theorem Q3C(l:List Int)(hl:l.length<=1000000000)(hi:I32 l)(k:Int)(h0:0<=k)(hk:k<=l.length)(s:ByteArray)(hs:s.size<=1000000000):BCall prog 21 [.slc 1 (Q0 l),.val (.int .i64 k),.val (.string s)] [] (.val (.bool (Q7 l k.toNat s.data.toList))) []:=by
 refine BCall.hand (enters_of func21 (by kernel_rfl) rfl) fun w g vs M hL=>?_
 obtain⟨v1,vs1,rfl,h1,hL⟩:=Qt hL;obtain⟨v2,vs2,rfl,h2,hL⟩:=Qt hL;obtain⟨v3,vs3,rfl,h3,hL⟩:=Qt hL;obtain rfl:=Q1i hL;obtain⟨A,c,rfl,hr⟩:=Q26 h1 M;obtain rfl:=Q1G h2;obtain rfl:=Q1G h3;have:=Qd8 _ A _ c l k.toNat s w hr (by omega) hl hs hi
 rw[Int.toNat_of_nonneg h0]at this;exact this.mono fun e w' ⟨h,hb⟩=>⟨_,h,hb,PRel.val _ rfl⟩
theorem QhJ(l:List Int)(hl:l.length<=1000000000)(k:Int)(h0:0<=k)(hk:k<=1000000000):BCall prog 87 [.slc 1 (Q0 l),.val (.int .i64 k)] [] (.val (.int .i64 (Ql l k.toNat))) []:=by
 refine BCall.hand (enters_of func87 (by kernel_rfl) rfl) fun w g vs M hL=>?_
 obtain⟨v1,vs1,rfl,h1,hL⟩:=Qt hL;obtain⟨v2,vs2,rfl,h2,hL⟩:=Qt hL;obtain rfl:=Q1i hL;obtain⟨A,c,rfl,hr⟩:=Q26 h1 M;obtain rfl:=Q1G h2;have:=QgC _ A _ c l k.toNat w hr (by omega) hl
 rw[Int.toNat_of_nonneg h0]at this;exact this.mono fun e w' ⟨h,hb⟩=>⟨_,h,hb ▸ Below.refl _ _,PRel.val _ rfl⟩
theorem Q9z(r:Int):BCall prog 86 [.val (.int .i32 r)] [] (.val (.bool (Q8 r))) []:=by
 refine BCall.hand (enters_of func86 (by kernel_rfl) rfl) fun w g vs M hL=>?_
 obtain⟨v1,vs1,rfl,h1,hL⟩:=Qt hL;obtain rfl:=Q1i hL;obtain rfl:=Q1G h1;exact(Qeo r w).mono fun e w' ⟨h,hb⟩=>⟨_,h,hb ▸ Below.refl _ _,PRel.val _ rfl⟩
end
section
open Tryz
def Qoq(t:Nat)(e:Ex)(s:St):Tree:=match e with
 |.exit _=>.stuck 70
 |.pan v=>.leaf (.pan v) s
 |_=>match lk t s.tm with
  |.row i ep=>.leaf .ret ⟨[(0,.row i ep)],s.ob⟩
  |_=>.stuck 71
theorem QhO{P:Program}{ty:Tys}(hT:TyOk P ty)(hm:P.follows .mixedOrders=true){cs:Nat->List AV->List Ob->Option (AV×List Ob)}{ord:Nat->OT}(t:Nat)
  {f:Nat} {fn:Func} {c:Code} {args:List AV} {ob:List Ob} {res:AV} {ob':List Ob} (hf:P.funcs[f]?=some fn) (hb:fn.body=some c) (hr:fn.results=#[.tmp t]) (he:∀vs w,(callFunc f vs).run P w=.ok (.enter f vs) w)
  (hn:args.length<=fn.ntmps) (hd:Q1g fn.ntmps c=true) (ho:Q1e .any ty ord c=true)
  (h:∀w0 g0,(QU std ty cs ord c (Qoq t) ⟨ent 0 args,ob⟩).ok [] P w0 g0 ob fn.ntmps (FinOk ob res ob')):BCall P f args ob res ob':=by
 refine⟨he,fun w g vs M hL=>calls_of_wp hf hb ?_⟩
 have jC:vs.length=args.length:=hL.1;refine Q2n (w0:=w) (g0:=g) (o0:=ob) (N:=fn.ntmps) (Q:=FinOk ob res ob') hT hm c _ _ ⟨ent 0 args,ob⟩ _ w hd ho (fun c a d v w h=>h) (fun e s a w' ht hs hq=>?_) (fun v s a w' ht _ hq=>by unfold FinOk at hq;rw[ht]at hq;exact hq.elim) ⟨rfl,?_,g,M,fun t=>?_,Step.refl⟩ (h w g)
 ·have fin:∀{T:Tree},T=(match lk t s.tm with|.row i ep=>.leaf .ret ⟨[(0,.row i ep)],s.ob⟩|_=>.stuck 71)->T.ok [] P w g ob fn.ntmps (FinOk ob res ob') ->
    a.defers=[]/\∃v,(results fn a.tmps).run P w'=.ok v w'/\∃v' g',Ending.returned v=.returned v'/\Mem w' g' ob'/\ARel w' g' ob' v' res/\Step w g ob w' g' ob':=fun qx hq=>by
   obtain⟨g',M',hS,h0⟩:=hs.rel;have hv:=hS t
   have jQ:(results fn a.tmps).run P w'=.ok (a.tmps.getD t undef) w':=by
    simp[results,hr]
   cases hx:lk t s.tm with
   |row i ep =>
    rw[hx]at qx hv;subst qx;obtain⟨ρ,r',l,h1,h2,h3,h4,h5,h6⟩:=(show FinOk ob res ob' .ret ⟨[(0,.row i ep)],s.ob⟩ from hq);obtain⟨⟨l1,e1,a1⟩,l2,e2,a2⟩:=Q1y h4 h5;have hF:Fits s.ob ob' ρ:=Q2B _ _ _ e2 a2;exact⟨hs.defers,_,jQ,_,g'.ren ρ,rfl,M'.ren hF h1,Q6a (Q4X hF h1 hv e1 a1) h6,Q5x hF h1 h2 h3 h0⟩
   |_=>rw[hx]at qx;subst qx;exact(show False from hq).elim
  cases e with
  |normal=>exact fin rfl hq
  |ret=>exact fin rfl hq
  |exit i=>exact(show False from hq).elim
  |pan v=>exact(by have hq:FinOk ob res ob' (.pan v) s:=hq;unfold FinOk at hq;rw[ht v rfl]at hq;exact hq.elim)
 ·simp;omega
 ·show ARel w g ob _ (lk t (ent 0 args))
  rw[Q9w];simp only[Nat.zero_le,if_true,Nat.sub_zero];by_cases ht:t<args.length
  ·rw[List.getD_eq_getElem?_getD,List.getElem?_eq_getElem ht,Option.getD_some]
   have e:(vs.toArray++Array.replicate (fn.ntmps-vs.toArray.size) undef).getD t undef=vs[t]'(by omega):=by
    rw[Array.getD_eq_getD_getElem?,Array.getElem?_append_left (by simp;omega)]
    simp[show t<vs.length by omega]
   rw[e];exact(hL.2 t _ _ (List.getElem?_eq_getElem (by omega)) (List.getElem?_eq_getElem ht)).to
  ·rw[List.getD_eq_getElem?_getD,List.getElem?_eq_none (by omega)]
   trivial
theorem fnR(t:Nat)(cs:Nat->List AV->List Ob->Option (AV×List Ob))(ord:Nat->OT){f:Nat}{fn:Func}{c:Code}{args:List AV}{ob:List Ob}{res:AV}{ob':List Ob}(hf:prog.funcs[f]?=some fn)(hb:fn.body=some c)(hr:fn.results=#[.tmp t])
  (h:∀w0 g0,(QU std tys cs ord c (Qoq t) ⟨ent 0 args,ob⟩).ok [] prog w0 g0 ob fn.ntmps (FinOk ob res ob'))
  (hk : (Nat.ble args.length fn.ntmps && (Q1g fn.ntmps c && (Q1e .any tys ord c && !(fn.name == "runtime.NumGoroutine")))) = true := by kernel_rfl) : BCall prog f args ob res ob' := by
 simp only[Bool.and_eq_true,Bool.not_eq_true']at hk;exact QhO Q5W QbC t hf hb hr (enters_of hf hk.2.2.2 hb) (Nat.le_of_ble_eq_true hk.1) hk.2.1 hk.2.2.1 h
