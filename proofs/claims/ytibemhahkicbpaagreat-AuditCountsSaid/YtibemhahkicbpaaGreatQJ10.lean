/- Lemmas; conditions told. -/
import Derived.Test.YtibemhahkicbpaaGreatQJ09
import Derived.Lib.Split
import Derived.Laws.StructEq
import Derived.WideShapes
import Derived.LoopN
set_option maxRecDepth 99999
set_option maxHeartbeats 0
set_option linter.unusedSimpArgs false
set_option linter.unusedVariables false
namespace Go.Proofs.YtibemhahkicbpaaGreat
open List(map_cons sum_cons sum_append map_append map_congr_left append_assoc length_append filter_cons length_drop drop_zero mem_map length_take map_take drop_succ_cons find?_cons getElem_drop getElem?_eq_getElem getElem?_take length_map getElem?_map)
open Nat(zero_le le_refl add_assoc)
open Go.RowKit Go.Lib
section
open Tryz
structure Node where
 kind:Int
 width:Int
 count:Int
 leaf:Bool
 b:List UInt8
 kids:List Int
 deriving Inhabited
def Node.av(x:Node):AV:=.agg [.val (.int .i64 x.kind),.val (.int .i64 x.width),.val (.int .i64 x.count),.val (.bool x.leaf),.slc 1 (Q2 x.b),.slc 1 (Q9 x.kids)]
def Q3(l:List Node):List AV:=l.map Node.av
theorem Q1o(l:List Node):(Q3 l).length=l.length:=by simp[Q3]
def Q9d:Node:=⟨0,0,0,false,[],[]⟩
def Qn(l:List Node)(n:Int):Node:=if 0<=n/\n<l.length then l[n.toNat]?.getD Q9d else Q9d
theorem Q8m{l:List Node}{n:Int}(h0:0<=n)(h1:n<l.length):(Q3 l)[n.toNat]?.getD .dead=(Qn l n).av:=by
 rw[Qn,if_pos ⟨h0,h1⟩];exact QdT Node.av h0 h1 Q9d
theorem QpV(l:List Node):BCall prog 118 [.ref [.slc 6 (Q3 l)]] [] (.val (.int .i64 l.length)) []:=by
 refine fnN (cs0) func118 rfl fun _ _=>?_
 with_reducible refine cv1 (Q3 l) ?_
 refine⟨by simp[std,Q3t,Q2x],.pure rfl (.inl ?_)⟩
 simp[std,Q2x,Q3]
def QnH(len:List AV->Int):Nat->List AV->List Ob->Option (AV×List Ob):=fun f args _=>match f,args with
 |118,[.ref [.slc 6 xs]]=>some (.val (.int .i64 (len xs)),[])
 |_,_=>none
def Q5p(xs:List AV):Int:=xs.length
theorem QbT(l:List Node):BCall prog 118 [.ref [.slc 6 (Q3 l)]] [] (.val (.int .i64 (Q5p (Q3 l)))) []:=by
 have:=QpV l
 rw[<-Q1o]at this;exact this
theorem Qp1(l:List Node)(n:Int):BCall prog 117 [.ref [.slc 6 (Q3 l)],.val (.int .i64 n)] [] (Qn l n).av []:=by
 refine fnN (QnH Q5p) func117 rfl fun _ _=>?_
 with_reducible refine cv2 Q5p (Q3 l) ?_
 have jB:=Q1o l;refine⟨fun h1=>.pure rfl ?_,fun h1=>⟨QbT l,fun h2=>.pure rfl ?_,fun h2=>⟨?_,?_,?_,.pure rfl ?_⟩⟩⟩
 ·have h1:n<0:=by simpa[std]using h1
  have:¬(0<=n/\n<l.length):=by omega
  simp[Qn,this,Node.av,Q9d,leA,QeH,leL,leC,Q2,Q9]
 ·have h2:(l.length:Int)<=n:=by simpa[std,Q5p,jB]using h2
  have:¬(0<=n/\n<l.length):=by omega
  simp[Qn,this,Node.av,Q9d,leA,QeH,leL,leC,Q2,Q9]
 ·simp[std,Q3t,Q2x]
 all_goals
  have h1:0<=n:=by simpa[std]using h1
  have h2:n<l.length:=by simpa[std,Q5p,jB]using h2
  have jU:=Q8m h1 h2
 ·simp[std,Q2x,jB,h1,h2]
 ·simp[std,Q3t,Q2x,jU,Node.av,AV.cells,intOf,Q5y]
 ·simp[std,Q3t,Q2x,jU,Node.av,AV.cells,intOf,Q5y,leA,QeH,leL,leC]
def Qj7(k w c:Int->Int)(lf:Int->Bool)(b s:Int->List AV):Nat->List AV->List Ob->Option (AV×List Ob):=fun f args _=>match f,args with
 |117,[.ref [.slc 6 _],.val (.int .i64 n)]=>some (.agg [.val (.int .i64 (k n)),.val (.int .i64 (w n)),.val (.int .i64 (c n)),.val (.bool (lf n)),.slc 1 (b n),.slc 1 (s n)],[])
 |121,[.slc 1 xs]=>some (.slc 1 xs,[])
 |214,[.slc 1 xs]=>some (.slc 1 xs,[])
 |86,[.slc 1 xs]=>some (.slc 1 xs,[])
 |_,_=>none
def Q1f(l:List Node)(n:Int):Int:=(Qn l n).kind
def Q1c(l:List Node)(n:Int):Int:=(Qn l n).width
def Q2u(l:List Node)(n:Int):Int:=(Qn l n).count
def Qco(l:List Node)(n:Int):Bool:=(Qn l n).leaf
def bN(l:List Node)(n:Int):List AV:=Q2 (Qn l n).b
def Q23(l:List Node)(n:Int):List AV:=Q9 (Qn l n).kids
theorem QoJ(l:List Node)(n:Int):BCall prog 115 [.ref [.slc 6 (Q3 l)],.val (.int .i64 n)] [] (.val (.int .i64 (Qn l n).kind)) []:=by
 refine fnN (Qj7 (Q1f l) (Q1c l) (Q2u l) (Qco l) (bN l) (Q23 l)) func115 rfl fun _ _=>?_
 with_reducible refine cv7 (Q1f l) (Q1c l) (Q2u l) (Qco l) (bN l) (Q23 l) (Q3 l) ?_
 exact⟨Qp1 l n,.pure rfl (.inl rfl)⟩
theorem Qn0(l:List Node)(n:Int):BCall prog 58 [.ref [.slc 6 (Q3 l)],.val (.int .i64 n)] [] (.val (.int .i64 (Qn l n).width)) []:=by
 refine fnN (Qj7 (Q1f l) (Q1c l) (Q2u l) (Qco l) (bN l) (Q23 l)) func58 rfl fun _ _=>?_
 with_reducible refine cv7 (Q1f l) (Q1c l) (Q2u l) (Qco l) (bN l) (Q23 l) (Q3 l) ?_
 exact⟨Qp1 l n,.pure rfl (.inl rfl)⟩
theorem QlB(l:List Node)(n:Int)(hn:(Qn l n).kids.length<=1000000000):BCall prog 68 [.ref [.slc 6 (Q3 l)],.val (.int .i64 n)] [] (.slc 1 (Q9 (Qn l n).kids)) []:=by
 refine fnN (Qj7 (Q1f l) (Q1c l) (Q2u l) (Qco l) (bN l) (Q23 l)) func68 rfl fun _ _=>?_
 with_reducible refine cv7 (Q1f l) (Q1c l) (Q2u l) (Qco l) (bN l) (Q23 l) (Q3 l) ?_
 exact⟨Qp1 l n,Qfo _ (by simpa[Q23,Q9]using hn),.pure rfl (.inl rfl)⟩
theorem Qq0:BCall prog 41 [] [] (.box 0 0) [.box [.val (.slice none 0 0)]]:=by
 refine fnO true (cs0) (fun _=>.nil) func41 rfl fun _ _=>?_
 with_reducible refine cv0 ?_
 exact⟨[some 0],.box 0 0,_,rfl,rfl,zero_le _,rfl,⟨rfl,rfl,trivial⟩,.inl rfl⟩
theorem QnY(xs:List AV)(hn:xs.length<1000000000)(k w c:Int)(lf:Bool)(b kids:List AV) :
  BCall prog 85 [.box 0 0,.agg [.val (.int .i64 k),.val (.int .i64 w),.val (.int .i64 c),.val (.bool lf),.slc 1 b,.slc 1 kids]] [.box [.row 1 0],.row 182 6 false 0 xs] (.val (.int .i64 xs.length)) [.box [.row 1 1],.row 182 6 false 1 (xs++[.agg [.val (.int .i64 k),.val (.int .i64 w),.val (.int .i64 c),.val (.bool lf),.slc 1 b,.slc 1 kids]])]:=by
 refine fnN (cs0) func85 rfl fun _ _=>?_
 with_reducible refine cv0 ?_
 refine⟨?_,?_,[some 0,some 1],.val (.int .i64 xs.length),_,rfl,rfl,le_refl _,rfl,?_,.inl rfl⟩
 ·simp[std];omega
 ·show(-9223372036854775808:Int)<=_/\_<=(9223372036854775807:Int)
  simp[std];omega
 ·simp[Qe,std]
theorem Qok(k w c:Int)(lf:Bool)(b kids:List AV) :
  BCall prog 85 [.box 0 0,.agg [.val (.int .i64 k),.val (.int .i64 w),.val (.int .i64 c),.val (.bool lf),.slc 1 b,.slc 1 kids]] [.box [.val (.slice none 0 0)]] (.val (.int .i64 0)) [.box [.row 1 1],.row 182 6 false 1 [.agg [.val (.int .i64 k),.val (.int .i64 w),.val (.int .i64 c),.val (.bool lf),.slc 1 b,.slc 1 kids]]]:=by
 refine fnN (cs0) func85 rfl fun _ _=>?_
 with_reducible refine cv0 ?_
 refine⟨?_,?_,[some 0,some 3],.val (.int .i64 0),_,rfl,rfl,Nat.le_succ _,rfl,?_,.inl rfl⟩
 ·simp[std]
 ·show(-9223372036854775808:Int)<=_/\_<=(9223372036854775807:Int)
  simp[std]
 ·simp[Qe,std]
def QI(kind:Int)(b:List UInt8):Node:=⟨kind,b.length,1,true,b,[]⟩
def Q7v(p:Pr):Nat->List AV->List Ob->Option (AV×List Ob):=fun f args ob=>match f,args with
 |85,[.box 0 0,.agg [k,w,c,l,b,s]]=>match ob with
  | [.box [.row 1 0],.row 182 6 false 0 xs]=>some (.val (.int .i64 (p.len xs)),[.box [.row 1 1],.row 182 6 false 1 (p.app xs [.agg [k,w,c,l,match b with|.val (.slice none 0 0)=>.slc 1 []|b=>b,match s with|.val (.slice none 0 0)=>.slc 1 []|s=>s]])])
  | [.box [.val (.slice none 0 0)]]=>some (.val (.int .i64 0),[.box [.row 1 1],.row 182 6 false 1 [.agg [k,w,c,l,match b with|.val (.slice none 0 0)=>.slc 1 []|b=>b,match s with|.val (.slice none 0 0)=>.slc 1 []|s=>s]]])
  |_=>none
 |121,[.slc 1 xs]=>some (.slc 1 xs,[])
 |86,[.slc 1 xs]=>some (.slc 1 xs,[])
 |86,[.val (.slice none 0 0)]=>some (.slc 1 [],[])
 |_,_=>none
theorem QkY(l:List Node)(hl:l.length<1000000000)(kind:Int)(b:List UInt8)(hb:b.length<=1000000000) :
  BCall prog 43 [.box 0 0,.val (.int .i64 kind),.slc 1 (Q2 b)] [.box [.row 1 0],.row 182 6 false 0 (Q3 l)] (.val (.int .i64 l.length)) [.box [.row 1 1],.row 182 6 false 1 (Q3 (l++[QI kind b]))]:=by
 refine fnN (Q7v std) func43 rfl fun _ _=>?_
 with_reducible refine cv2 (Q2 b) (Q3 l) ?_
 refine⟨Q83 _ (by simpa[Q2]using hb),?_,[some 0,some 1],.val (.int .i64 l.length),_,rfl,rfl,le_refl _,rfl,?_,.inl rfl⟩
 ·exact(QnY (Q3 l) (by simpa[Q3]using hl) kind _ 1 true (Q2 b) []).le ⟨.inl rfl,⟨.inl rfl,.inl rfl,.inl rfl,.inl rfl,.inl rfl,.inr (.inl ⟨rfl,_,rfl⟩),trivial⟩,trivial⟩
 ·simp[Qe,std,Q3,QI,Node.av,Q2,Q9]
theorem Qmi(kind:Int)(b:List UInt8)(hb:b.length<=1000000000) :
  BCall prog 43 [.box 0 0,.val (.int .i64 kind),.slc 1 (Q2 b)] [.box [.val (.slice none 0 0)]] (.val (.int .i64 0)) [.box [.row 1 1],.row 182 6 false 1 (Q3 [QI kind b])]:=by
 refine fnN (Q7v std) func43 rfl fun _ _=>?_
 with_reducible refine cv1 (Q2 b) ?_
 refine⟨Q83 _ (by simpa[Q2]using hb),?_,[some 0,some 1],.val (.int .i64 0),_,rfl,rfl,Nat.le_succ _,rfl,?_,.inl rfl⟩
 ·exact(Qok kind _ 1 true (Q2 b) []).le ⟨.inl rfl,⟨.inl rfl,.inl rfl,.inl rfl,.inl rfl,.inl rfl,.inr (.inl ⟨rfl,_,rfl⟩),trivial⟩,trivial⟩
 ·simp[Qe,std,Q3,QI,Node.av,Q2,Q9]
def Q1Z(l:List Node)(ks:List Int):Int:=(ks.map (Q1c l)).sum
def cnt(l:List Node)(ks:List Int):Int:=ks.foldl (fun c k=>min (c+Q2u l k) 2147483647) 1
def Q1i(l:List Node)(kind:Int)(ks:List Int):Node:=⟨kind,Q1Z l ks,cnt l ks,false,[],ks⟩
theorem Q5P{l:List Node}(hw:∀n,0<=Q1c l n)(ks:List Int):0<=Q1Z l ks:=by
 induction ks with
 |nil=>simp[Q1Z]
 |cons k r ih=>have:=hw k;simp only[Q1Z,map_cons,sum_cons]at ih ⊢;omega
theorem Q9y{l:List Node}(hw:∀n,0<=Q1c l n)(ks:List Int)(n:Nat):Q1Z l (ks.take n)<=Q1Z l ks:=by
 have h:=Q5P hw (ks.drop n)
 have e:Q1Z l ks=Q1Z l (ks.take n)+Q1Z l (ks.drop n):=by
  rw[Q1Z,Q1Z,Q1Z,<-sum_append,<-map_append,List.take_append_drop]
 omega
theorem Q8K{l:List Node}(hc:∀n,0<=Q2u l n/\Q2u l n<=2147483647)(ks:List Int):0<=cnt l ks/\cnt l ks<=2147483647:=by
 have key:∀(ks:List Int)(c:Int),0<=c/\c<=2147483647->0<=ks.foldl (fun c k=>min (c+Q2u l k) 2147483647) c/\ks.foldl (fun c k=>min (c+Q2u l k) 2147483647) c<=2147483647:=by
  intro ks;induction ks with
  |nil=>intro c h;exact h
  |cons k r ih=>intro c h;have:=hc k;exact ih (min (c+Q2u l k) 2147483647) (by omega)
 exact key ks 1 (by omega)
theorem Qfg(l:List Node)(hl:l.length<1000000000)(kind:Int)(ks:List Int)(yC:ks.length<=1000000000)(jR:∀k∈ks,0<=k/\k<l.length)(hw:∀n,0<=Q1c l n)(hc:∀n,0<=Q2u l n/\Q2u l n<=2147483647)(zQ:Q1Z l ks<=2147483647) :
  BCall prog 90 [.box 0 0,.val (.int .i64 kind),.slc 1 (Q9 ks)] [.box [.row 1 0],.row 182 6 false 0 (Q3 l)] (.tup [.val (.int .i64 l.length),.val (.int .i64 0)]) [.box [.row 1 1],.row 182 6 false 1 (Q3 (l++[Q1i l kind ks]))]:=by
 refine fnN (Q7v std) func90 rfl fun _ _=>?_
 with_reducible refine cv2 (Q9 ks) (Q3 l) ?_
 refine⟨Qfo _ (by simpa[Q9]using yC),?_⟩
 obtain⟨n,hn⟩:=QE ks;refine Q1h (Q7v std) (Int) (fun i=>⟨[(0,.box 0 0),(8,.box 2 0),(9,.val (.bool false)),(18,.slc 1 (Q9 ks)),(19,.val (.int .i64 n)),(20,.val (.int .i64 i))],[.box [.row 1 0],.row 182 6 false 0 (Q3 l),.box [.val (.int .i64 kind),.val (.int .i64 (Q1Z l (ks.take i.toNat))),.val (.int .i64 (cnt l (ks.take i.toNat))),.val (.bool false),.val (.slice none 0 0),.slc 1 (Q9 ks)]]⟩) (fun i=>0<=i/\i<=n) (fun i=>(n-i).toNat) 0 ?_ ?_ ?_
 ·have:=hn.eq
  omega
 ·exact⟨[some 0,some 1,some 2],_,rfl,by simp[Qe,lk,Q1Z,cnt,std,Q9,hn.eq]⟩
 ·rintro i ⟨qE,yk⟩
  have en:=hn.eq;have xo:=Q2w ks;have vv:=Q1o l;rcases Int.lt_or_eq_of_le yk with jA|jZ
  ·have jU:=Q2T (l:=ks) qE (en ▸ jA)
   have hmem:ks[i.toNat]?.getD 0∈ks:=by
    have:i.toNat<ks.length:=by omega
    simp[this]
   have ht:ks.take (i+1).toNat=ks.take i.toNat++[ks[i.toNat]?.getD 0]:=by
    have:i.toNat<ks.length:=by omega
    rw[show(i+1).toNat=i.toNat+1 by omega,List.take_add_one]
    simp[this]
   have yt:Q1Z l (ks.take (i+1).toNat)=Q1Z l (ks.take i.toNat)+Q1c l (ks[i.toNat]?.getD 0):=by rw[ht];simp[Q1Z]
   have hC2:cnt l (ks.take (i+1).toNat)=min (cnt l (ks.take i.toNat)+Q2u l (ks[i.toNat]?.getD 0)) 2147483647:=by rw[ht];simp[cnt,List.foldl_append]
   obtain⟨q8,jX⟩:=jR _ hmem;obtain⟨k,hk⟩:=exq (ks[i.toNat]?.getD 0);rw[<-hk]at jU yt hC2 q8 jX;have hnd:=Q8m q8 jX
   have hWl:Q1Z l (ks.take i.toNat)+Q1c l k<=2147483647:=by
    rw[<-yt];exact Int.le_trans (Q9y hw _ _) zQ
   have hW0:0<=Q1Z l (ks.take i.toNat):=Q5P hw _;have hC0:=Q8K hc (ks.take i.toNat);have nU:=hw k;have z7:=hc k;simp only[Q1c,Q2u]at yt hC2 hWl nU z7;obtain⟨W,hW⟩:=exq (Q1Z l (ks.take i.toNat));obtain⟨C,hC⟩:=exq (cnt l (ks.take i.toNat));rw[<-hW]at yt hWl hW0 ⊢;rw[<-hC]at hC2 hC0 ⊢;clear en;with_reducible refine cv2 (Q9 ks) (Q3 l) ?_
   have en:=hn.eq;replace jX:k<(l.length:Int):=jX
   repeat' first
    |(with_reducible refine And.intro (fun hx=>absurd hx (by first|(try simp[std,S1,jU,xo,vv,hnd,q8,jX,Node.av,jA])<;>omega|omega)) (fun _=>?_))
    |(with_reducible refine And.intro (fun _=>?_) (fun hx=>absurd hx (by first|(try simp[std,S1,jU,xo,vv,hnd,q8,jX,Node.av,jA])<;>omega|omega)))
    |(with_reducible refine And.intro (by first|(try simp[std,S1,jU,xo,vv,hnd,q8,jX,Node.av,jA])<;>omega|omega) ?_)
    |(with_reducible refine zA ?_ ?_)
    |(with_reducible intro hb)
   all_goals exact⟨i+1,⟨by omega,by omega⟩,by omega,[some 0,some 1,some 2],_,rfl,by simp[Qe,lk,std,jU,hnd,Node.av,AV.cells,intOf,yt,hC2];omega⟩
  ·have ht:ks.take i.toNat=ks:=List.take_of_length_le (by omega)
   rw[ht];have hW0:=Q5P hw ks;have hC0:=Q8K hc ks;have hB:Q1i l kind ks=⟨kind,Q1Z l ks,cnt l ks,false,[],ks⟩:=rfl;obtain⟨W,hW⟩:=exq (Q1Z l ks);obtain⟨C,hC⟩:=exq (cnt l ks);rw[<-hW]at hW0 hB ⊢;rw[<-hC]at hC0 hB ⊢;clear en;with_reducible refine cv2 (Q9 ks) (Q3 l) ?_
   with_reducible repeat' first|refine aU jZ ?_|refine zA ?_ ?_|intro hb
   rw[if_pos trivial];generalize hBv:Q1i l kind ks=B at hB ⊢;with_reducible refine cv2 (Q9 ks) (Q3 l) ?_
   refine⟨?_,[some 0,some 1],.tup [.val (.int .i64 l.length),.val (.int .i64 0)],_,rfl,rfl,le_refl _,rfl,?_,?_⟩
   ·exact(QnY (Q3 l) (by simpa[Q3]using hl) kind W C false [] (Q9 ks)).le ⟨.inl rfl,⟨.inl rfl,.inl rfl,.inl rfl,.inl rfl,.inr (.inl ⟨rfl,_,rfl⟩),.inl rfl,trivial⟩,trivial⟩
   ·simp[Qe,std,vv,Q3,hB,Node.av,Q2,Q9]
   ·exact⟨.inl rfl,.inl rfl,trivial⟩
def Wf(l:List Node):Prop:=∀n:Int,0<=n->n<l.length->∀k∈(Qn l n).kids,0<=k/\k<n
def prF(l:List Node):Nat->Int->List UInt8
 |0,_=>[]
 |f+1,n=>(Qn l n).b++(Qn l n).kids.flatMap (prF l f)
def pr(l:List Node)(n:Int):List UInt8:=prF l (n.toNat+1) n
def coF(l:List Node):Nat->Int->Nat
 |0,_=>1
 |f+1,n=>1+((Qn l n).kids.map (coF l f)).sum
def co(l:List Node)(n:Int):Nat:=coF l (n.toNat+1) n
theorem QeC{l:List Node}(hw:Wf l):∀(f f':Nat)(n:Int),0<=n->n<l.length->n.toNat<f->n.toNat<f'->prF l f n=prF l f' n
 |0,_,_,_,_,h,_=>by omega
 |_+1,0,_,_,_,_,h=>by omega
 |f+1,f'+1,n,h0,h1,h2,h3=>by
  simp only[prF];congr 1
  refine congrArg List.flatten (map_congr_left fun k hk=>?_)
  have:=hw n h0 h1 k hk
  exact QeC hw f f' k this.1 (by omega) (by omega) (by omega)
theorem Qh3{l:List Node}(hw:Wf l){n:Int}(h0:0<=n)(h1:n<l.length):pr l n=(Qn l n).b++(Qn l n).kids.flatMap (pr l):=by
 show prF l (n.toNat+1) n=_;simp only[prF];congr 1
 refine congrArg List.flatten (map_congr_left fun k hk=>?_)
 have:=hw n h0 h1 k hk
 exact QeC hw _ _ k this.1 (by omega) (by omega) (by omega)
theorem Qfb{l:List Node}(hw:Wf l):∀(f f':Nat)(n:Int),0<=n->n<l.length->n.toNat<f->n.toNat<f'->coF l f n=coF l f' n
 |0,_,_,_,_,h,_=>by omega
 |_+1,0,_,_,_,_,h=>by omega
 |f+1,f'+1,n,h0,h1,h2,h3=>by
  simp only[coF];congr 2
  refine map_congr_left fun k hk=>?_
  have:=hw n h0 h1 k hk
  exact Qfb hw f f' k this.1 (by omega) (by omega) (by omega)
theorem Qbd{l:List Node}(hw:Wf l){n:Int}(h0:0<=n)(h1:n<l.length):co l n=1+((Qn l n).kids.map (co l)).sum:=by
 show coF l (n.toNat+1) n=_;simp only[coF];congr 2
 refine map_congr_left fun k hk=>?_
 have:=hw n h0 h1 k hk
 exact Qfb hw _ _ k this.1 (by omega) (by omega) (by omega)
def Qj2(l:List Node):Prop:=∀n:Int,0<=n->n<l.length->(Qn l n).width=(pr l n).length
def Qfe(len:List AV->Int):Nat->List AV->List Ob->Option (AV×List Ob):=QnH len
def prS(l:List Node)(st:List Int):List UInt8:=st.reverse.flatMap (pr l)
def coS(l:List Node)(st:List Int):Nat:=(st.map (co l)).sum
def kS(l:List Node)(ks:List Int):List Int:=(ks.filter fun k=>decide (0<Q1c l k)).reverse
theorem Qgi(l:List Node)(n:Int):1<=co l n:=by
 show 1<=coF l (n.toNat+1) n;simp only[coF];omega
theorem Qhs{l:List Node}(st:List Int):st.length<=coS l st:=by
 induction st with
 |nil=>simp[coS]
 |cons k r ih=>have:=Qgi l k;simp only[coS,map_cons,sum_cons,List.length_cons]at ih ⊢;omega
theorem Qm7(l:List Node)(hl:l.length<=1000000000)(hw:Wf l)(hwd:Qj2 l)(n:Int)(h0:0<=n)(h1:n<l.length)(hp:(pr l n).length<=1000000)(hc:co l n<=1000000) :
  BCall prog 59 [.ref [.slc 6 (Q3 l)],.val (.int .i64 n)] [] (.slc 1 (Q2 (pr l n))) []:=by
 obtain⟨m,hm⟩:=QE l;have cg:n<m:=by rw[hm.eq];exact h1
 refine fnN (Qfe Q5p) func59 rfl fun _ _=>?_
 clear h1;with_reducible refine cv2 Q5p (Q3 l) ?_
 have em:=hm.eq
 repeat' first
  |(with_reducible refine And.intro (fun hx=>absurd hx (by first|(try simp[std,S1,Q5p,Q1o l,h0,QbT l])<;>omega|omega)) (fun _=>?_))
  |(with_reducible refine And.intro (fun _=>?_) (fun hx=>absurd hx (by first|(try simp[std,S1,Q5p,Q1o l,h0,QbT l])<;>omega|omega)))
  |(with_reducible refine And.intro (by first|(try simp[std,S1,Q5p,Q1o l,h0,QbT l])<;>omega|omega) ?_)
  |(with_reducible refine zA ?_ ?_)
  |(with_reducible intro hb)
 ·exact QbT l
 refine Q1h (Qfe Q5p) (List UInt8×List Int) (fun x=>⟨[(0,.ref [.slc 6 (Q3 l)]),(5,.row 0 0),(6,.row 1 0)],[.row 5 1 false 0 (Q2 x.1),.row 3 1 false 0 (Q9 x.2)]⟩) (fun x=>x.1++prS l x.2=pr l n/\(∀k∈x.2,0<=k/\k<m)/\coS l x.2<=1000000) (fun x=>coS l x.2) ([],[n]) ?_ ?_ ?_
 ·exact⟨by simp[prS],by simp[h0,cg],by simpa[coS]using hc⟩
 ·exact⟨[none,some 0],_,rfl,by simp[Qe,lk,Q2,Q9,Qgf]⟩
 ·rintro⟨out,st⟩ ⟨jh,j7,j6⟩
  simp only at jh j7 j6
  rcases List.eq_nil_or_concat st with rfl|⟨st',k,rfl⟩
  ·with_reducible refine cv3 Q5p (Q3 l) (Q2 out) ?_
   repeat' first
    |(with_reducible refine And.intro (fun hx=>absurd hx (by first|(try simp[std,S1,Q9])<;>omega|omega)) (fun _=>?_))
    |(with_reducible refine And.intro (fun _=>?_) (fun hx=>absurd hx (by first|(try simp[std,S1,Q9])<;>omega|omega)))
    |(with_reducible refine And.intro (by first|(try simp[std,S1,Q9])<;>omega|omega) ?_)
    |(with_reducible refine zA ?_ ?_)
    |(with_reducible intro hb)
   rw[if_pos trivial];with_reducible refine cv2 (Q3 l) (Q2 out) ?_
   refine .pure rfl (.inl ?_);rw[<-jh];simp[prS]
  ·rw[List.concat_eq_append]at jh j7 j6 ⊢
   obtain⟨q8,hkm⟩:=j7 k (by simp)
   have jX:k<(l.length:Int):=by omega
   have hnd:=Q8m q8 jX;have gH:(Q9 (st'++[k])).length=st'.length+1:=by simp[Q9]
   have jU:(Q9 (st'++[k]))[st'.length]?.getD .dead=.val (.int .i64 k):=by simp[Q9,Qgf]
   have yN:∀h:st'.length<(Q9 (st'++[k])).length,(Q9 (st'++[k]))[st'.length]'h=.val (.int .i64 k):=fun h=>by simp[Q9,Qgf]
   have jT:(Q9 (st'++[k])).take st'.length=Q9 st':=by
    rw[show Q9 (st'++[k])=Q9 st'++[Qgf k] by simp[Q9]]
    exact List.take_left' (by simp[Q9])
   have vv:=Q1o l;have kK:=Qh3 hw q8 jX;have z7:=Qbd hw q8 jX
   have hpr:pr l n=out++((Qn l k).b++((Qn l k).kids.flatMap (pr l)++prS l st')):=by
    rw[<-jh,prS,List.reverse_append,List.flatMap_append];simp[kK,prS,append_assoc]
   have kL:∀j∈(Qn l k).kids,0<=j/\j<m:=fun j hj=>by
    have:=hw k q8 jX j hj
    exact⟨this.1,by omega⟩
   have gy:coS l st'+(1+((Qn l k).kids.map (co l)).sum)<=1000000:=by
    rw[coS,map_append,sum_append]at j6;simpa[coS,z7]using j6
   have gW:coS l (st'++[k])=coS l st'+(1+((Qn l k).kids.map (co l)).sum):=by
    rw[coS,map_append,sum_append];simp[coS,z7]
   have j2:out.length+(Qn l k).b.length<=1000000:=by
    have:=congrArg List.length hpr
    simp only[length_append]at this;omega
   have zJ:=Qhs (l:=l) st';have qe:(Qn l k).kids.length<=((Qn l k).kids.map (co l)).sum:=Qhs (Qn l k).kids;obtain⟨nd,hndE⟩:=exq (Qn l k);rw[<-hndE]at hnd hpr kL gy gW j2 qe;have jY:=Q11 nd.b;have jV:=Q11 out;have zR:=Q2w nd.kids;clear em;with_reducible refine cv4 Q5p (Q3 l) (Q2 out) (Q9 (st'++[k])) ?_
   have em:=hm.eq
   repeat' first
    |(with_reducible refine And.intro (fun hx=>absurd hx (by first|(try simp[std,S1,gH,jU,yN,jT,vv,hnd,Node.av,q8,jX,jY,jV,zR])<;>omega|omega)) (fun _=>?_))
    |(with_reducible refine And.intro (fun _=>?_) (fun hx=>absurd hx (by first|(try simp[std,S1,gH,jU,yN,jT,vv,hnd,Node.av,q8,jX,jY,jV,zR])<;>omega|omega)))
    |(with_reducible refine And.intro (by first|(try simp[std,S1,gH,jU,yN,jT,vv,hnd,Node.av,q8,jX,jY,jV,zR])<;>omega|omega) ?_)
    |(with_reducible refine zA ?_ ?_)
    |(with_reducible intro hb)
   obtain⟨nk,hnk⟩:=QE nd.kids;refine Q1h (Qfe Q5p) (Int) (fun j=>⟨[(0,.ref [.slc 6 (Q3 l)]),(5,.row 0 0),(6,.row 1 0),(7,.box 2 0),(8,.val (.int .i64 j))],[.row 5 1 false 0 (Q2 (out++nd.b)),.row 3 1 false 0 (Q9 (st'++kS l (nd.kids.drop (j+1).toNat))),.box [.val (.int .i64 nd.kind),.val (.int .i64 nd.width),.val (.int .i64 nd.count),.val (.bool nd.leaf),.slc 1 (Q2 nd.b),.slc 1 (Q9 nd.kids)]]⟩) (fun j=>-1<=j/\j<nk) (fun j=>(j+1).toNat) (nk-1) ?_ ?_ ?_
   ·have:=hnk.eq
    omega
   ·have en:=hnk.eq
    refine⟨[some 0,some 1,some 2],_,rfl,?_⟩;have e1:nd.kids.drop (nk-1+1).toNat=[]:=List.drop_eq_nil_of_le (by omega)
    simp[Qe,lk,std,gH,jU,yN,jT,vv,hnd,Node.av,AV.cells,intOf,Q5y,Q2x,q8,jX,zR,en,e1];exact⟨by simp[Q2],by simp[kS]⟩
   ·rintro j ⟨zK,gC⟩
    have en:=hnk.eq;rcases Int.lt_or_eq_of_le zK with jA|jZ
    ·have xp:0<=j:=by omega
     have yr:j.toNat<nd.kids.length:=by omega
     have jU:=Q2T (l:=nd.kids) xp (by omega)
     have ku:nd.kids.drop j.toNat=nd.kids[j.toNat]?.getD 0::nd.kids.drop (j+1).toNat:=by
      rw[List.drop_eq_getElem_cons yr,show(j+1).toNat=j.toNat+1 by omega]
      simp[yr]
     have hq:=kL (nd.kids[j.toNat]?.getD 0) (by simp[yr])
     obtain⟨q,hqE⟩:=exq (nd.kids[j.toNat]?.getD 0);rw[<-hqE]at jU ku hq;have zu:q<(l.length:Int):=by omega
     have qV:=Q8m hq.1 zu
     have hkS:kS l (nd.kids.drop j.toNat)=kS l (nd.kids.drop (j+1).toNat)++(if 0<(Qn l q).width then [q]else []):=by
      rw[ku,kS,filter_cons];by_cases h:0<Q1c l q
      ·have h':0<(Qn l q).width:=h
       simp[h,h',kS]
      ·have h':¬0<(Qn l q).width:=h
       simp[h,h',kS]
     have hsl2:(st'++kS l (nd.kids.drop (j+1).toNat)).length<=1000000:=by
      have h1:(kS l (nd.kids.drop (j+1).toNat)).length<=nd.kids.length:=by
       rw[kS,List.length_reverse];refine Nat.le_trans (List.length_filter_le _ _) ?_;rw[length_drop];omega
      rw[length_append];omega
     have hol2:=Q11 (out++nd.b);have qh:=Q2w (st'++kS l (nd.kids.drop (j+1).toNat));obtain⟨st2,qa⟩:=exq (st'++kS l (nd.kids.drop (j+1).toNat));rw[<-qa]at hsl2 qh ⊢;obtain⟨out2,yn⟩:=exq (out++nd.b);rw[<-yn]at hol2 ⊢;clear en em;with_reducible refine cv6 Q5p (Q3 l) (Q2 out2) (Q9 st2) (Q2 nd.b) (Q9 nd.kids) ?_
     have em:=hm.eq;have en:=hnk.eq;replace zu:q<(l.length:Int):=zu
     repeat' first
      |(with_reducible refine And.intro (fun hx=>absurd hx (by first|(try simp[std,S1,jU,vv,qV,Node.av,hq.1,zu,xp,zR,qh])<;>omega|omega)) (fun _=>?_))
      |(with_reducible refine And.intro (fun _=>?_) (fun hx=>absurd hx (by first|(try simp[std,S1,jU,vv,qV,Node.av,hq.1,zu,xp,zR,qh])<;>omega|omega)))
      |(with_reducible refine And.intro (by first|(try simp[std,S1,jU,vv,qV,Node.av,hq.1,zu,xp,zR,qh])<;>omega|omega) ?_)
      |(with_reducible refine zA ?_ ?_)
      |(with_reducible intro hb)
     ·have kB:0<(Qn l q).width:=by simpa[std,AV.cells,intOf,Q2x,jU,vv,qV,Node.av,hq.1,zu]using hb
      rw[if_pos kB]at hkS;refine⟨j-1,⟨by omega,by omega⟩,by omega,[some 0,some 1,some 2],_,rfl,?_⟩
      have e2:st'++kS l (nd.kids.drop (j-1+1).toNat)=st2++[q]:=by
       rw[show j-1+1=j by omega,hkS,<-append_assoc,<-qa]
      rw[e2];simp[Qe,lk,std,AV.cells,intOf,Q2x,jU,vv,qV,Node.av,hq.1,zu,yn,Q4T,Qey]
     ·have kB:¬0<(Qn l q).width:=by simpa[std,AV.cells,intOf,Q2x,jU,vv,qV,Node.av,hq.1,zu]using hb
      rw[if_neg kB,List.append_nil]at hkS;refine⟨j-1,⟨by omega,by omega⟩,by omega,[some 0,some 1,some 2],_,rfl,?_⟩
      have e2:st'++kS l (nd.kids.drop (j-1+1).toNat)=st2:=by
       rw[show j-1+1=j by omega,hkS,<-qa]
      rw[e2];simp[Qe,lk,std,AV.cells,intOf,Q2x,jU,vv,qV,Node.av,hq.1,zu,yn]
    ·subst jZ
     rw[show(-1+1:Int).toNat=0 from rfl,drop_zero]
     have pX:(out++nd.b)++prS l (st'++kS l nd.kids)=pr l n:=by
      rw[hpr,prS,List.reverse_append,List.flatMap_append,prS];simp only[append_assoc];congr 2
      rw[kS,List.reverse_reverse];congr 1
      have key:∀ks:List Int,(∀q∈ks,0<=q/\q<m)->(ks.filter fun k=>decide (0<Q1c l k)).flatMap (pr l)=ks.flatMap (pr l):=by
       intro ks;induction ks with
       |nil=>intro _;rfl
       |cons q r ih =>
        intro h;have hr:=ih (fun q hq=>h q (List.mem_cons_of_mem _ hq))
        rw[filter_cons,List.flatMap_cons,<-hr];by_cases hq:0<Q1c l q
        ·simp[hq]
        ·have h1:=h q (List.mem_cons_self ..)
         have h2:=hwd q h1.1 (by have:=hm.eq;omega)
         have h3:pr l q=[]:=by
          have:(pr l q).length=0:=by
           have h4:¬0<(Qn l q).width:=hq;omega
          exact List.eq_nil_of_length_eq_zero this
         simp[hq,h3]
      exact key nd.kids kL
     have hT2:∀q∈st'++kS l nd.kids,0<=q/\q<m:=by
      intro q hq;rcases List.mem_append.1 hq with h|h
      ·exact j7 q (List.mem_append_left _ h)
      ·rw[kS,List.mem_reverse]at h
       exact kL q (List.mem_filter.1 h).1
     have hT3:coS l (st'++kS l nd.kids)<coS l (st'++[k]):=by
      rw[gW,coS,map_append,sum_append]
      have h1:((kS l nd.kids).map (co l)).sum<=(nd.kids.map (co l)).sum:=by
       rw[kS,List.map_reverse,List.sum_reverse];generalize nd.kids=ks;induction ks with
       |nil=>simp
       |cons q r ih =>
        rw[filter_cons];split<;>simp only[map_cons,sum_cons]<;>omega
      have h2:(st'.map (co l)).sum=coS l st':=rfl;omega
     obtain⟨st2,qa⟩:=exq (st'++kS l nd.kids);obtain⟨out2,yn⟩:=exq (out++nd.b);rw[<-qa]at pX hT2 hT3 ⊢;rw[<-yn]at pX ⊢;clear en em;with_reducible refine cv6 Q5p (Q3 l) (Q2 out2) (Q9 st2) (Q2 nd.b) (Q9 nd.kids) ?_
     with_reducible repeat' first|refine aU vv ?_|refine zA ?_ ?_|intro hb
     rw[if_pos trivial];refine⟨(out2,st2),⟨pX,hT2,by simp only;omega⟩,hT3,[some 0,some 1],_,rfl,?_⟩
     simp[Qe,lk]
def Q1T(s t:ByteArray):Bool:=decide (t.size<=s.size)&&(s.data.toList.take t.size == t.data.toList)
theorem Qhh{s t:ByteArray}(h:t.size<=s.size):std.eqS (std.cutS s 0 (std.szS t)) t=Q1T s t:=by
 simp only[std,Q1T,h,decide_true,Bool.true_and,ByteArray.toList_eq];rw[show(0:Int).toNat=0 from rfl,Int.toNat_natCast,extract_from_zero]
theorem QnX(s t:ByteArray):BCall prog 173 [.val (.string s),.val (.string t)] [] (.val (.bool (Q1T s t))) []:=by
 refine fnN (cs0) func173 rfl fun _ _=>?_
 with_reducible refine cv0 ?_
 refine⟨fun h=>⟨?_,.pure rfl (.inl ?_)⟩,fun h=>.pure rfl (.inl ?_)⟩
 ·have h:t.size<=s.size:=by simpa[std]using h
  simp[std];omega
 ·have h:t.size<=s.size:=by simpa[std]using h
  show AV.val (.bool (std.eqS (std.cutS s 0 (std.szS t)) t))=_;rw[Qhh h]
 ·have h:¬t.size<=s.size:=by simpa[std]using h
  simp[Q1T,h]
def Q6b(pre:ByteArray->ByteArray->Bool):Nat->List AV->List Ob->Option (AV×List Ob):=fun f args _=>match f,args with
 |173,[.val (.string s),.val (.string t)]=>some (.val (.bool (pre s t)),[])
 |132,[.val (.string s),.val (.string t)]=>some (.val (.bool (pre s t)),[])
 |_,_=>none
theorem QkP(s t:ByteArray):BCall prog 132 [.val (.string s),.val (.string t)] [] (.val (.bool (Q1T s t))) []:=by
 refine fnN (Q6b Q1T) func132 rfl fun _ _=>?_
 with_reducible refine cv1 Q1T ?_
 exact⟨QnX s t,.pure rfl (.inl rfl)⟩
def signsL:List (List UInt8×Int×Int):=[([254,255],1,2),([255,254],2,2),([239,187,191],0,3),([0,60,0,63],1,0),([60,0,63,0],2,0)]
def kR(pre:List UInt8->Bool)(k:Nat):Int×Int:=match(signsL.drop k).find? (fun x=>pre x.1)with
 |some x=>x.2
 |none=>(0,0)
def QX(b:List UInt8):Int×Int:=kR (fun t=>t.isPrefixOf b) 0
theorem Q3u(l:List UInt8):(Q2 l).map Q35=l:=by
 induction l with
 |nil=>rfl
 |cons x r ih=>rw[Q2,map_cons,map_cons];rw[Q2]at ih;rw[ih];simp[Q6g,Q35]
theorem QaC(l:List UInt8):std.isB (Q2 l):=fun x hx=>by
 obtain⟨n,_,rfl⟩:=mem_map.1 hx;exact⟨n,rfl⟩
theorem Qkd(b t:List UInt8)(h:t.length<=4):Q1T ⟨(b.take 4).toArray⟩ ⟨t.toArray⟩=t.isPrefixOf b:=by
 have e:Q1T ⟨(b.take 4).toArray⟩ ⟨t.toArray⟩=(decide (t.length<=(b.take 4).length)&&((b.take 4).take t.length == t)):=rfl;rw[e,Bool.eq_iff_iff,List.isPrefixOf_iff_prefix,List.prefix_iff_eq_take];simp only[List.take_take,length_take,Bool.and_eq_true,decide_eq_true_eq,beq_iff_eq,Nat.min_eq_left h];constructor
 ·exact fun h=>h.2.symm
 ·intro h1
  have:t.length<=b.length:=by
   have:=congrArg List.length h1
   rw[length_take]at this;omega
  exact⟨by omega,h1.symm⟩
theorem Qmc(b:List UInt8):BCall prog 84 [.slc 1 (Q2 b)] [] (.tup [.val (.int .i64 (QX b).1),.val (.int .i64 (QX b).2)]) []:=by
 refine fnN (Q6b Q1T) func84 rfl fun _ _=>?_
 with_reducible refine cv2 Q1T (Q2 b) ?_
 have jY:=Q11 b;have ym:std.minI (std.len (Q2 b)) 4=if 4<(b.length:Int)then 4 else(b.length:Int):=by simp only[std,jY]
 have jT:std.cut (Q2 b) 0 (std.minI (std.len (Q2 b)) 4)=Q2 (b.take 4):=by
  rw[ym];show((Q2 b).drop (0:Int).toNat).take _=_
  rw[show(0:Int).toNat=0 from rfl,drop_zero,Q2,Q2,map_take];split
  ·rfl
  ·have:b.length<=4:=by omega
   rw[List.take_of_length_le (by simp),List.take_of_length_le (by simpa using this)]
 refine⟨?_,?_,?_⟩
 ·simp only[std,jY]
  split<;>omega
 ·show std.isB (std.cut (Q2 b) 0 (std.minI (std.len (Q2 b)) 4))
  rw[jT];exact QaC _
 have nV:std.strB (std.cut (Q2 b) 0 (std.minI (std.len (Q2 b)) 4))=⟨(b.take 4).toArray⟩:=by
  rw[jT];show(⟨((Q2 (b.take 4)).map Q35).toArray⟩:ByteArray)=_
  rw[Q3u]
 obtain⟨s,hs⟩:=exq (⟨(b.take 4).toArray⟩:ByteArray);have zv:∀t:List UInt8,t.length<=4->t.isPrefixOf b=Q1T s ⟨t.toArray⟩:=fun t h=>by rw[hs,Qkd b t h]
 have hR:QX b=kR (fun t=>Q1T s ⟨t.toArray⟩) 0:=by
  simp[QX,kR,signsL,List.find?,zv [254,255] (by decide),zv [255,254] (by decide),zv [239,187,191] (by decide),zv [0,60,0,63] (by decide),zv [60,0,63,0] (by decide)]
 rw[hR];obtain⟨R,hRE⟩:=exq (kR (fun t=>Q1T s ⟨t.toArray⟩) 0)
 rw[<-hRE];obtain⟨R1,R2⟩:=R;refine Q1h (Q6b Q1T) (Int) (fun k=>⟨[(5,.val (.string s)),(20,.agg [.val (.string ⟨#[254,255]⟩),.val (.int .i64 1),.val (.int .i64 2),.val (.string ⟨#[255,254]⟩),.val (.int .i64 2),.val (.int .i64 2),.val (.string ⟨#[239,187,191]⟩),.val (.int .i64 0),.val (.int .i64 3),.val (.string ⟨#[0,60,0,63]⟩),.val (.int .i64 1),.val (.int .i64 0),.val (.string ⟨#[60,0,63,0]⟩),.val (.int .i64 2),.val (.int .i64 0)]),(21,.val (.int .i64 k))],[]⟩) (fun k=>0<=k/\k<=5/\(R1,R2)=kR (fun t=>Q1T s ⟨t.toArray⟩) k.toNat) (fun k=>(5-k).toNat) 0 ?_ ?_ ?_
 ·exact⟨by omega,by omega,hRE⟩
 ·refine⟨[],_,rfl,?_,?_⟩
  ·show AV.val (.string (std.strB (std.cut (Q2 b) 0 (std.minI (std.len (Q2 b)) 4))))=.val (.string s)
   rw[nV,<-hs]
  ·repeat first|exact trivial|refine⟨rfl,?_⟩
 ·rintro k ⟨q8,hk5,hk⟩
  have hcs:k=0\/k=1\/k=2\/k=3\/k=4\/k=5:=by omega
  clear hR zv hRE nV jT jY hs ym;rcases hcs with rfl|rfl|rfl|rfl|rfl|rfl
  ·with_reducible refine cv1 Q1T ?_
   with_reducible repeat' first|refine aU hk ?_|refine zA ?_ ?_|intro hb
   ·exact QkP _ _
   ·with_reducible refine cv1 Q1T ?_
    simp[kR,signsL,List.find?,hb]at hk;exact .pure rfl ⟨.inl (by rw[hk.1]),.inl (by rw[hk.2]),trivial⟩
   ·refine⟨1,⟨by omega,by omega,?_⟩,by omega,[],_,rfl,?_⟩
    ·rw[hk]
     simp only[kR,signsL,Int.reduceToNat,drop_succ_cons,drop_zero,find?_cons,hb]
    ·simp[Qe,lk,std]
  ·with_reducible refine cv1 Q1T ?_
   with_reducible repeat' first|refine aU hk ?_|refine zA ?_ ?_|intro hb
   ·exact QkP _ _
   ·with_reducible refine cv1 Q1T ?_
    simp[kR,signsL,List.find?,hb]at hk;exact .pure rfl ⟨.inl (by rw[hk.1]),.inl (by rw[hk.2]),trivial⟩
   ·refine⟨2,⟨by omega,by omega,?_⟩,by omega,[],_,rfl,?_⟩
    ·rw[hk]
     simp only[kR,signsL,Int.reduceToNat,drop_succ_cons,drop_zero,find?_cons,hb]
    ·simp[Qe,lk,std]
  ·with_reducible refine cv1 Q1T ?_
   with_reducible repeat' first|refine aU hk ?_|refine zA ?_ ?_|intro hb
   ·exact QkP _ _
   ·with_reducible refine cv1 Q1T ?_
    simp[kR,signsL,List.find?,hb]at hk;exact .pure rfl ⟨.inl (by rw[hk.1]),.inl (by rw[hk.2]),trivial⟩
   ·refine⟨3,⟨by omega,by omega,?_⟩,by omega,[],_,rfl,?_⟩
    ·rw[hk]
     simp only[kR,signsL,Int.reduceToNat,drop_succ_cons,drop_zero,find?_cons,hb]
    ·simp[Qe,lk,std]
  ·with_reducible refine cv1 Q1T ?_
   with_reducible repeat' first|refine aU hk ?_|refine zA ?_ ?_|intro hb
   ·exact QkP _ _
   ·with_reducible refine cv1 Q1T ?_
    simp[kR,signsL,List.find?,hb]at hk;exact .pure rfl ⟨.inl (by rw[hk.1]),.inl (by rw[hk.2]),trivial⟩
   ·refine⟨4,⟨by omega,by omega,?_⟩,by omega,[],_,rfl,?_⟩
    ·rw[hk]
     simp only[kR,signsL,Int.reduceToNat,drop_succ_cons,drop_zero,find?_cons,hb]
    ·simp[Qe,lk,std]
  ·with_reducible refine cv1 Q1T ?_
   with_reducible repeat' first|refine aU hk ?_|refine zA ?_ ?_|intro hb
   ·exact QkP _ _
   ·with_reducible refine cv1 Q1T ?_
    simp[kR,signsL,List.find?,hb]at hk;exact .pure rfl ⟨.inl (by rw[hk.1]),.inl (by rw[hk.2]),trivial⟩
   ·refine⟨5,⟨by omega,by omega,?_⟩,by omega,[],_,rfl,?_⟩
    ·rw[hk]
     simp only[kR,signsL,Int.reduceToNat,drop_succ_cons,drop_zero,find?_cons,hb]
    ·simp[Qe,lk,std]
  ·with_reducible refine cv1 Q1T ?_
   with_reducible repeat' first|refine aU hk ?_|refine zA ?_ ?_|intro hb
   rw[if_pos trivial];with_reducible refine cv1 Q1T ?_
   simp[kR,signsL]at hk;exact .pure rfl ⟨.inl (by rw[hk.1]),.inl (by rw[hk.2]),trivial⟩
def Q1E(l:List Int):Int:=if l.getD 0 0=34\/l.getD 0 0=39 then(match(l.drop 1).findIdx? (· == l.getD 0 0)with|some k=>k+2|none=>0)else 0
theorem QhC{l:List Int}{i:Int}(hq:l.getD 0 0=34\/l.getD 0 0=39)(h1:1<=i)(h2:i<l.length)(h3:∀j:Int,1<=j->j<i->l.getD j.toNat 0≠l.getD 0 0)(h4:l.getD i.toNat 0=l.getD 0 0):Q1E l=i+1:=by
 have hk:i.toNat-1<(l.drop 1).length:=by simp;omega
 have e:(l.drop 1).findIdx? (· == l.getD 0 0)=some (i.toNat-1):=by
  rw[List.findIdx?_eq_some_iff_getElem];refine⟨hk,?_,fun j hj=>?_⟩
  ·have h5:1+(i.toNat-1)=i.toNat:=by omega
   have h6:i.toNat<l.length:=by omega
   simp only[getElem_drop,h5,beq_iff_eq];rw[<-h4,List.getD_eq_getElem?_getD,getElem?_eq_getElem h6];rfl
  ·have h6:j+1<l.length:=by omega
   have h7:=h3 ((j+1:Nat):Int) (by omega) (by omega)
   rw[Int.toNat_natCast,List.getD_eq_getElem?_getD,getElem?_eq_getElem h6]at h7;simpa[getElem_drop]using h7
 simp only[Q1E,if_pos hq,e];omega
theorem Qgl{l:List Int}(h3:∀j:Int,1<=j->j<l.length->l.getD j.toNat 0≠l.getD 0 0):Q1E l=0:=by
 have e:(l.drop 1).findIdx? (· == l.getD 0 0)=none:=by
  rw[List.findIdx?_eq_none_iff];intro x hx;obtain⟨j,hj,rfl⟩:=List.mem_iff_getElem.1 hx;have h6:j+1<l.length:=by simp at hj;omega
  have h7:=h3 ((j+1:Nat):Int) (by omega) (by omega)
  rw[Int.toNat_natCast,List.getD_eq_getElem?_getD,getElem?_eq_getElem h6]at h7;simpa[getElem_drop]using h7
 simp only[Q1E,e];split<;>rfl
theorem Qns(l:List Int)(hl:l≠[])(xr:l.length<=1000000000):BCall prog 184 [.slc 1 (Q0 l)] [] (.val (.int .i64 (Q1E l))) []:=by
 refine QlH (cs:=cs0) (ord:=fun _=>.nil) Q6k (by kernel_rfl) func184 rfl (enters_of func184 (by kernel_rfl) rfl) (Nat.le_of_ble_eq_true rfl) (by kernel_rfl) (by kernel_rfl) ?_
 intro w0 g0;generalize hp:std=p;generalize hx:Q0 l=xs;generalize hT:Q4 p tys cs0 _ _ _ _=T;cbv at hT;subst hT;simp only[Tree.ok];subst hp hx;have je:0<l.length:=List.length_pos_iff.2 hl;have jB:=Qx l;have a0:(Q0 l)[0]?.getD .dead=.val (.int .i32 (l[0]?.getD 0)):=QJ (i:=0) (Int.le_refl 0) (by omega)
 refine⟨?_,?_,fun h1=>⟨?_,?_,fun h2=>.pure rfl (.inl ?_),fun h2=>?_⟩,fun h1=>?_⟩
 ·simp[std,jB,je]
 ·simp[std,Q3t,a0,AV.cells,intOf]
 ·simp[std,jB,je]
 ·simp[std,Q3t,a0,AV.cells,intOf]
 ·simp[std,a0,AV.cells,intOf]at h1 h2
  simp[Q1E,h1,h2]
 all_goals
  have hq:l.getD 0 0=34\/l.getD 0 0=39:=by
   first
    |(simp[std,a0,AV.cells,intOf]at h2;exact .inr h2)
    |(simp[std,a0,AV.cells,intOf]at h1;exact .inl h1)
  refine Qcq (cs:=cs0) (ord:=fun _=>.nil) Q6k (by kernel_rfl) (by kernel_rfl) (by kernel_rfl) (X:=Int) (fun i=>⟨[(0,.slc 1 (Q0 l)),(3,.val (.int .i64 i))],[]⟩)
   (fun i=>1<=i/\i<=l.length/\∀j:Int,1<=j->j<i->l.getD j.toNat 0≠l.getD 0 0) (fun i=>(l.length-i).toNat) 1 ⟨by omega,by omega,fun j h1 h2=>by omega⟩ ⟨[],_,rfl,?_⟩ ?_
  ·exact⟨rfl,rfl,trivial⟩
  ·rintro i ⟨qE,yk,p7⟩
   clear h1;generalize hp:std=p;generalize hx:Q0 l=xs;generalize hT:Q4 p tys cs0 _ _ _ _=T;cbv at hT;subst hT;simp only[Tree.ok,Q1];subst hp hx;refine⟨fun h1=>?_,fun h1=>?_⟩
   ·have h1:i<l.length:=by simpa[std,jB]using h1
    have ai:=QJ (l:=l) (i:=i) (by omega) h1
    refine⟨?_,?_,?_,?_,fun h2=>⟨?_,?_⟩,fun h2=>⟨?_,i+1,⟨?_,?_,fun j h3 h4=>?_⟩,?_,[],_,rfl,?_⟩⟩
    ·simp[std,jB];omega
    ·simp[std,Q3t,ai,AV.cells,intOf]
    ·simp[std,jB,je]
    ·simp[std,Q3t,a0,AV.cells,intOf]
    ·show(-9223372036854775808:Int)<=_/\_<=(9223372036854775807:Int)
     simp[std];omega
    ·generalize hp:std=p
     generalize hx:Q0 l=xs;generalize hT:Q53 p tys _ _ _ _=T;cbv at hT;subst hT;subst hp hx;refine FinOk.pure rfl (.inl ?_);have e:l.getD i.toNat 0=l.getD 0 0:=by simpa[std,ai,a0,AV.cells,intOf]using h2
     rw[QhC hq qE h1 p7 e];rfl
    ·show(-9223372036854775808:Int)<=_/\_<=(9223372036854775807:Int)
     simp[std];omega
    ·show(1:Int)<=i+1
     omega
    ·show i+1<=(l.length:Int)
     omega
    ·by_cases qi:j=i
     ·subst qi
      simpa[std,ai,a0,AV.cells,intOf]using h2
     ·exact p7 j h3 (by omega)
    ·show((l.length:Int)-(i+1)).toNat<((l.length:Int)-i).toNat
     omega
    ·exact⟨rfl,rfl,trivial⟩
   ·have h1:¬i<l.length:=by simpa[std,jB]using h1
    generalize hp:std=p;generalize hx:Q0 l=xs;generalize hT:Q4 p tys cs0 _ _ _ _=T;cbv at hT;subst hT hp hx;rw[if_pos trivial];refine FinOk.pure rfl (.inl ?_);rw[Qgl (l:=l) (fun j h3 h4=>p7 j h3 (Int.lt_of_lt_of_le h4 (Int.not_lt.1 h1)))]
structure TPart where
 kind:Int
 from_:Int
 to:Int
 deriving Inhabited
def TPart.av(x:TPart):AV:=.agg [.val (.int .i64 x.kind),.val (.int .i64 x.from_),.val (.int .i64 x.to)]
def Q8(l:List TPart):List AV:=l.map TPart.av
def Qm:TPart:=⟨0,0,0⟩
theorem Q1d(l:List TPart):(Q8 l).length=l.length:=by simp[Q8]
theorem QaN(a b:List TPart):Q8 (a++b)=Q8 a++Q8 b:=by simp[Q8]
theorem Q7O(x:TPart):Q8 [x]=[.agg [.val (.int .i64 x.kind),.val (.int .i64 x.from_),.val (.int .i64 x.to)]]:=rfl
theorem Q2a{l:List TPart}{i:Int}(h0:0<=i)(h1:i<l.length):(Q8 l)[i.toNat]?.getD .dead=(l[i.toNat]?.getD Qm).av:=QdT TPart.av h0 h1 Qm
def QO(l:List TPart)(a:Nat)(ks:List Int):Bool:=((l.drop a).take ks.length).map TPart.kind == ks
theorem Q29{l:List TPart}{a:Nat}{ks:List Int}(ha:a<=l.length):QO l a ks=true↔(a+ks.length<=l.length/\∀j,j<ks.length->(l[a+j]?.getD Qm).kind=ks[j]?.getD 0):=by
 have at_:a+ks.length<=l.length->∀j,j<ks.length->(((l.drop a).take ks.length).map TPart.kind)[j]?=some (l[a+j]?.getD Qm).kind:=fun h j hj=>by
  have h1:a+j<l.length:=by omega
  simp[getElem?_take,List.getElem?_drop,hj,h1]
 rw[QO,beq_iff_eq];constructor
 ·intro h
  have h1:a+ks.length<=l.length:=by
   have:=congrArg List.length h
   simp only[length_map,length_take,length_drop]at this;omega
  refine⟨h1,fun j hj=>?_⟩
  have h2:=at_ h1 j hj;rw[h]at h2;rw[h2];rfl
 ·rintro⟨h1,h2⟩
  refine List.ext_getElem? fun j=>?_
  by_cases hj:j<ks.length
  ·rw[at_ h1 j hj,h2 j hj,getElem?_eq_getElem hj];rfl
  ·rw[List.getElem?_eq_none (by simp;omega),List.getElem?_eq_none (by omega)]
theorem Q6V(l:List TPart)(hl:l.length<=1000000000)(a:Int)(h0:0<=a)(h1:a<=l.length)(ks:List Int)(hk:ks.length<=10)(res:AV)(a':Int)
  (hhit:QO l a.toNat ks=true->res=.slc 3 (Q8 ((l.drop a.toNat).take ks.length))/\a'=a+ks.length) (yj:QO l a.toNat ks=false->res=.val (.slice none 0 0)/\a'=a) :
  BCall prog 101 [.box 0 0,.slc 1 (Q9 ks)] [.box [.slc 3 (Q8 l),.val (.int .i64 a)]] res [.box [.slc 3 (Q8 l),.val (.int .i64 a')]]:=by
 obtain⟨n,hn⟩:=QE l;obtain⟨m,hm⟩:=QE ks;refine fnN (cs0) func101 rfl fun _ _=>?_
 have qD:=Q1d l;have qe:=Q2w ks;have xt:=Q29 (l:=l) (a:=a.toNat) (ks:=ks) (by omega)
 with_reducible refine cv2 (Q8 l) (Q9 ks) ?_
 have en:=hn.eq;have em:=hm.eq;replace h1:a<=(l.length:Int):=h1;refine⟨?_,fun h=>?_,fun h=>?_⟩
 ·refine(Qhr _).2 ?_
  simp only[std,qD];omega
 ·have h:(l.length:Int)-a<ks.length:=by simpa[std,qD,qe]using h
  obtain⟨rfl,rfl⟩:=yj (by
   rw[Bool.eq_false_iff];intro h2;have:=(xt.1 h2).1
   omega)
  exact⟨[some 0],.val (.slice none 0 0),_,rfl,rfl,le_refl _,rfl,by simp[Qe],.inl rfl⟩
 ·have h:¬(l.length:Int)-a<ks.length:=by simpa[std,qD,qe]using h
  refine Q1h (cs0) (Int) (fun i=>⟨[(0,.box 0 0),(1,.slc 1 (Q9 ks)),(21,.slc 1 (Q9 ks)),(22,.val (.int .i64 m)),(23,.val (.int .i64 i))],[.box [.slc 3 (Q8 l),.val (.int .i64 a)]]⟩) (fun i=>0<=i/\i<=m/\∀j:Nat,(j:Int)<i->(l[a.toNat+j]?.getD Qm).kind=ks[j]?.getD 0) (fun i=>(m-i).toNat) 0 ?_ ?_ ?_
  ·exact⟨by omega,by omega,fun j hj=>by omega⟩
  ·refine⟨[some 0],_,rfl,?_⟩
   simp[Qe,lk,std,qe,em]
  ·have vE:a+m<=n:=by omega
   clear h;rintro i ⟨jK,him,hi⟩;rcases Int.lt_or_eq_of_le him with jA|jZ
   ·have jU:=Q2T (l:=ks) jK (by omega)
    have p8:=Q2a (l:=l) (i:=a+i) (by omega) (by omega)
    have pd:(a+i).toNat=a.toNat+i.toNat:=by omega
    rw[pd]at p8;have kG:∀j:Nat,j<i.toNat->(l[a.toNat+j]?.getD Qm).kind=ks[j]?.getD 0:=fun j hj=>hi j (by omega)
    clear hi;clear en em;with_reducible refine cv2 (Q8 l) (Q9 ks) ?_
    have en:=hn.eq;have em:=hm.eq;have hib:a+i<(l.length:Int):=by omega
    repeat' first
     |(with_reducible refine And.intro (fun hx=>absurd hx (by first|(try simp[std,S1,jU,p8,pd,TPart.av,qD,qe,jA,jK,hib])<;>omega|omega)) (fun _=>?_))
     |(with_reducible refine And.intro (fun _=>?_) (fun hx=>absurd hx (by first|(try simp[std,S1,jU,p8,pd,TPart.av,qD,qe,jA,jK,hib])<;>omega|omega)))
     |(with_reducible refine And.intro (by first|(try simp[std,S1,jU,p8,pd,TPart.av,qD,qe,jA,jK,hib])<;>omega|omega) ?_)
     |(with_reducible refine zA ?_ ?_)
     |(with_reducible intro hb)
    ·have jJ:¬(l[a.toNat+i.toNat]?.getD Qm).kind=ks[i.toNat]?.getD 0:=by
      simpa[std,jU,p8,pd,TPart.av,AV.cells,intOf]using hb
     obtain⟨rfl,rfl⟩:=yj (by
      rw[Bool.eq_false_iff];intro h2;exact jJ ((xt.1 h2).2 i.toNat (by omega)))
     with_reducible refine cv2 (Q8 l) (Q9 ks) ?_
     exact⟨[some 0],.val (.slice none 0 0),_,rfl,rfl,le_refl _,rfl,by simp[Qe],.inl rfl⟩
    ·have he:(l[a.toNat+i.toNat]?.getD Qm).kind=ks[i.toNat]?.getD 0:=by
      simpa[std,jU,p8,pd,TPart.av,AV.cells,intOf]using hb
     refine⟨i+1,⟨by omega,by omega,fun j hj=>?_⟩,by omega,[some 0],_,rfl,by simp[Qe,lk,std]⟩
     have hj:(j:Int)<i+1:=hj;by_cases qi:j<i.toNat
     ·exact kG j qi
     ·obtain rfl:j=i.toNat:=by omega
      exact he
   ·obtain⟨rfl,rfl⟩:=hhit (xt.2 ⟨by omega,fun j hj=>hi j (by omega)⟩)
    have jT:std.cut (Q8 l) a (a+m)=Q8 ((l.drop a.toNat).take ks.length):=by
     show((Q8 l).drop a.toNat).take (a+m-a).toNat=_
     rw[show(a+m-a).toNat=ks.length by omega,Q8,Q8,map_take,List.map_drop]
    have vr:std.len (Q9 ks)=m:=by simp only[std,qe,em]
    have nW:a+(ks.length:Int)=a+m:=by omega
    rw[nW,<-jT];clear en em hi;with_reducible refine cv2 (Q8 l) (Q9 ks) ?_
    with_reducible repeat' first|refine aU jZ ?_|refine zA ?_ ?_|intro hb
    rw[if_pos trivial];with_reducible refine cv2 (Q8 l) (Q9 ks) ?_
    have en:=hn.eq;have em:=hm.eq
    repeat' first
     |(with_reducible refine And.intro (fun hx=>absurd hx (by first|(try simp[std,S1,vr,qD,qe,<-em])<;>omega|omega)) (fun _=>?_))
     |(with_reducible refine And.intro (fun _=>?_) (fun hx=>absurd hx (by first|(try simp[std,S1,vr,qD,qe,<-em])<;>omega|omega)))
     |(with_reducible refine And.intro (by first|(try simp[std,S1,vr,qD,qe,<-em])<;>omega|omega) ?_)
     |(with_reducible refine zA ?_ ?_)
     |(with_reducible intro hb)
    have zx:std.add a (std.len (Q9 ks))=a+m:=by rw[vr];rfl
    refine⟨[some 0],.slc 3 (std.cut (Q8 l) a (a+m)),_,rfl,rfl,le_refl _,rfl,⟨?_,rfl,?_,trivial⟩,.inl rfl⟩
    ·show AV.slc 3 (std.cut (Q8 l) a (std.add a (std.len (Q9 ks))))=_
     rw[zx]
    ·show AV.val (.int .i64 (std.add a (std.len (Q9 ks))))=_
     rw[zx]
end
def QpZ(ob ob2 ob2' obr:List Ob)(ρ ρ':List (Option Nat)):Bool:=(List.range ob.length).all fun i=>match Qi0 ρ i with
 |some j=>ρ'[i]? == some (some j)&&(match ob[i]?,ob2[j]?,ob2'[j]?,obr[i]? with
  |some (.row _ _ _ e0 _),some (.row _ _ _ e2 _),some (.row _ _ _ e2' _),some (.row _ _ _ er _)=>decide (e0<er)||(e0 == er&&e2 == e2')
  |_,_,_,_=>true)
 |none=>false
section
variable {w w':World}{g g':Gh}{ob ob2 ob2' obr:List Ob}{ρ ρ':List (Option Nat)}
theorem QiW(hF:Fits ob ob2 ρ)(ho:Q32 ρ=true)(kz:Fits ob2' obr ρ')(yK:Q32 ρ'=true)(hi:QpZ ob ob2 ob2' obr ρ ρ'=true)(hn:ob.length<=obr.length)(h0:Step w (g.ren ρ) ob2 w' g' ob2'):Step w g ob w' (g'.ren ρ') obr:=by
 have head:∀i,i<ob.length->∃j,ρ[j]?=some (some i)/\ρ'[i]?=some (some j)/\∀e0 e2 e2' er et sz fz xs et2 sz2 fz2 xs2 et3 sz3 fz3 xs3 et4 sz4 fz4 xs4,
   ob[i]?=some (.row et sz fz e0 xs)->ob2[j]?=some (.row et2 sz2 fz2 e2 xs2)->ob2'[j]?=some (.row et3 sz3 fz3 e2' xs3)->obr[i]?=some (.row et4 sz4 fz4 er xs4)->e0<er\/(e0=er/\e2=e2'):=fun i kG=>by
  have:=List.all_eq_true.1 hi i (List.mem_range.2 kG)
  split at this
  ·rename_i j hj
   simp only[Bool.and_eq_true,beq_iff_eq]at this;refine⟨j,QeI hj,this.1,?_⟩;intro e0 e2 e2' er et sz fz xs et2 sz2 fz2 xs2 et3 sz3 fz3 xs3 et4 sz4 fz4 xs4 h1 h2 h3 h4;have h5:=this.2;simp only[h1,h2,h3,h4,Bool.or_eq_true,Bool.and_eq_true,beq_iff_eq,decide_eq_true_eq]at h5;exact h5
  ·cases this
 refine⟨h0.os,h0.tape,h0.output,h0.size,fun b hb hG=>h0.keep b hb (by simp[Gh.ren,hG]),fun b id hG=>?_,fun b o hA=>?_,⟨h0.ext.A,fun id hid=>?_,fun id hb=>?_,fun id hb=>?_,fun id et sz fz e xs hr=>?_,fun b id hG hs=>?_⟩,hn⟩
 ·obtain⟨i,_,h3⟩:=Q39 hG
  rcases h0.own b i h3 with ⟨id',h4⟩|h4
  ·obtain⟨i',_,h5⟩:=Q39 h4
   exact .inl ⟨i',h5⟩
  ·exact .inr h4
 ·rcases h0.imm b o hA with h1|⟨id,h1⟩|h1
  ·exact .inl h1
  ·obtain⟨i',_,h5⟩:=Q39 h1
   exact .inr (.inl ⟨i',h5⟩)
  ·exact .inr (.inr h1)
 ·obtain⟨j,h1,h2,_⟩:=head id hid
  have hj:j<ob2.length:=hF.1 ▸ Qa h1;rw[Q3r h2,h0.ext.loc j hj,Q3r h1]
 ·obtain⟨j,h1,h2,_⟩:=head id (Q4o hb)
  exact kz.isB h2 (h0.ext.isb j (hF.isB h1 hb))
 ·obtain⟨j,h1,h2,_⟩:=head id (Q5g hb)
  exact kz.isI h2 (h0.ext.isi j (hF.isI h1 hb))
 ·obtain⟨j,h1,h2,h3⟩:=head id (Qa hr)
  obtain⟨fz2,e2,h4,_⟩:=hF.row h1 hr;obtain⟨fz3,e3,xs3,h5,h6,h7⟩:=h0.ext.row j et sz fz2 e2 xs h4;obtain⟨fz4,e4,h8,_⟩:=kz.row h2 h5;refine⟨fz4,e4,xs3,h8,by rcases h3 _ _ _ _ _ _ _ _ _ _ _ _ _ _ _ _ _ _ _ _ hr h4 h5 h8 with h|h<;>omega,fun he=>?_⟩
  have qg:e3=e2:=by
   rcases h3 _ _ _ _ _ _ _ _ _ _ _ _ _ _ _ _ _ _ _ _ hr h4 h5 h8 with h|h
   ·omega
   ·exact h.2.symm
  obtain⟨h9,ju⟩:=h7 qg;refine⟨h9,fun b hb=>?_⟩
  obtain⟨yw,xl⟩:=ju b (Q6i ho h1 hb);exact⟨Q6i yK h2 yw,xl⟩
 ·obtain⟨et,sz,fz,fz',e,xs,xs',h4,h5⟩:=hs
  obtain⟨j,h1,h2,h3⟩:=head id (Qa h4);obtain⟨fz2,e2,h6,_⟩:=hF.row h1 h4;obtain⟨fz3,e3,xs3,h7,h8,h9⟩:=h0.ext.row j et sz fz2 e2 xs h6;obtain⟨fz4,e4,ju,_⟩:=kz.row h2 h7;rw[ju]at h5;obtain⟨rfl,rfl,rfl⟩:fz4=fz'/\e4=e/\xs3=xs':=by simpa using h5
  have qg:e2=e3:=by
   rcases h3 _ _ _ _ _ _ _ _ _ _ _ _ _ _ _ _ _ _ _ _ h4 h6 h7 ju with h|h
   ·omega
   ·exact h.2
  subst qg;have nP:=Q6i (g:=g) ho h1 hG;obtain⟨yw,xl⟩:=h0.ext.sub b j nP ⟨_,_,_,_,_,_,_,h6,h7⟩;have hG3:=((h9 rfl).2 b nP).1;have e1:=Q4F (g:=g) ho h1 hG;have e2:=Q4F (g:=g') yK h2 hG3;exact⟨e2.trans (yw.trans e1),fun hb=>xl (by rw[e1];exact hb)⟩
theorem BCall.tell{P:Program}{f:Nat}{args args2:List AV}{res2 res' res:AV}{l l':Eqs}(h:BCall P f args2 ob2 res2 ob2')(ρ ρ':List (Option Nat))(h1:Q32 ρ=true)(yY:Q32 ρ'=true)(hi:QpZ ob ob2 ob2' obr ρ ρ'=true)(hn:ob.length<=obr.length)
  (ha:both (Qch ob ob2 ρ args args2) (Q9j ob ob2 ρ ρ ob2)=some l) (hl:Qe l) (hr:both (QkD ob2' obr ρ' res2 res') (Q9j ob2' obr ρ' ρ' obr)=some l') (hl':Qe l') (h6:leA res' res):BCall P f args ob res obr:=by
 refine⟨h.1,fun w g vs M hL=>?_⟩
 obtain⟨⟨l1,e1,a1⟩,l2,e2,a2⟩:=Q37 ha hl;obtain⟨⟨l3,e3,a3⟩,l4,e4,a4⟩:=Q37 hr hl';have hF:Fits ob ob2 ρ:=Q4M _ _ _ e2 a2;have kz:Fits ob2' obr ρ':=Q4M _ _ _ e4 a4;obtain⟨k1,k2⟩:=Q8N hF h1 _ _ _ _ e1 a1 hL.1 hL.2;refine(h.2 w (g.ren ρ) vs (M.ren hF h1) ⟨k1,k2⟩).mono fun e w' ⟨v,g',k1,k2,k3,k4⟩=>?_
 exact⟨v,g'.ren ρ',k1,k2.ren kz yY,Q9I (QaI kz yY k3 e3 a3) h6,QiW hF h1 kz yY hi hn k4⟩
end
section
variable {P:Program}{ty:Tys}{w0:World}{g0:Gh}{o0:List Ob}{N:Nat}
theorem Q46(hT:TyOk P ty)(hm:P.follows .mixedOrders=true){ord:Nat->OT}{c:Code}(hd:Q4p N c=true)(ho:Q40 .any ty ord c=true)
  {X:Type} (cs:X->Nat->List AV->List Ob->Option (AV×List Ob)) (S:X->St) (J:X->Prop) (μ:X->Nat) {Q:Ex->St->Prop} {s:St} (x0:X) (h0:J x0) (hS:Qn2 o0 s (S x0))
  (round:∀x,J x->(Q4 std ty (cs x) ord c (fun e s=>.leaf e s) (S x)).ok P w0 g0 o0 N (Q1 o0 S J μ x Q)):WP P w0 g0 o0 N (.loop c) Q s:=by
 intro a w hs;obtain⟨ρ,l,hl,hE⟩:=hS;let I:Act->World->Prop:=fun a w=>∃x,J x/\Sim w0 g0 o0 N (S x) a w
 let pm:Act->World->Nat->Prop:=fun a w n=>∃x,J x/\Sim w0 g0 o0 N (S x) a w/\μ x=n
 let m:Act->World->Nat:=fun a w=>open Classical in if h:∃n,pm a w n then Classical.choose (Qc1 _ h)else 0
 have ym:∀a w,I a w->pm a w (m a w)/\∀k,pm a w k->m a w<=k:=fun a w hI=>by
  have h:∃n,pm a w n:=by
   obtain⟨x,h1,h2⟩:=hI;exact⟨μ x,x,h1,h2,rfl⟩
  have e:m a w=Classical.choose (Qc1 _ h):=dif_pos h;rw[e];exact Classical.choose_spec (Qc1 _ h)
 refine wp_loop I m ⟨x0,h0,Q8B ρ hl hE hs⟩ fun a w hI=>?_
 obtain⟨⟨x,hJ,hx,hμ⟩,jH⟩:=ym a w hI;refine Q5j (Q:=Q1 o0 S J μ x Q) hT hm c _ _ (S x) a w hd ho (fun c a d v w h=>?_) (fun e s a' w' jl hq=>?_) hx (round x hJ)
 ·obtain⟨e',s',h1,h2,h3⟩:=h
  cases e'<;>cases h1
 ·cases e with
  |normal =>
   obtain⟨x',h1,h2,ρ',l',h3,h4⟩:=hq;have jW:=Q8B ρ' h3 h4 jl;have nQ:I a' w':=⟨x',h1,jW⟩;refine⟨nQ,Nat.lt_of_le_of_lt ((ym a' w' nQ).2 _ ⟨x',h1,jW,rfl⟩) ?_⟩;rw[<-hμ];exact h2
  |exit i=>exact⟨.exit i,s,rfl,jl,hq⟩
  |ret=>exact⟨.ret,s,rfl,jl,hq⟩
end
theorem Qom{α:Type}(f:α->AV){l:List α}{i:Int}(h0:0<=i)(h1:i<l.length)(d:α):std.at_ (l.map f) i=f (l[i.toNat]?.getD d):=by
 show(l.map f).getD i.toNat .dead=_
 rw[List.getD_eq_getElem?_getD];exact QdT f h0 h1 d
theorem QdH{l:List Int}{i:Int}(h0:0<=i)(h1:i<l.length):std.nth (std.cel (std.at_ (Q9 l) i)) 0=.val (.int .i64 (l[i.toNat]?.getD 0)):=by rw[Q9,Qom Qgf h0 h1 0];rfl
theorem QmM{x:AV}{n:Int}{k:IntKind}(h:x=.val (.int k n)):std.hasI k x:=by subst h;rfl
theorem Ql3{x:AV}{n:Int}{k:IntKind}(h:x=.val (.int k n)):std.int x=n:=by subst h;rfl
section
open Tryz
inductive Cur where
 |root (n:Int)
 |kid (n f k:Int) (up:Cur)
 deriving Inhabited
def Cur.n:Cur->Int
 |.root n=>n
 |.kid n _ _ _=>n
def Cur.f:Cur->Int
 |.root _=>0
 |.kid _ f _ _=>f
def Cur.k:Cur->Int
 |.root _=>0
 |.kid _ _ k _=>k
def upO(N:List AV):Cur->AV
 |.root _=>.val (.pointer none)
 |.kid _ _ _ up=>.ref [.ref [.slc 6 N],.val (.int .i64 up.n),.val (.int .i64 up.f),.val (.int .i64 up.k),.opt (upO N up)]
def Cur.cs(N:List AV)(c:Cur):List AV:=[.ref [.slc 6 N],.val (.int .i64 c.n),.val (.int .i64 c.f),.val (.int .i64 c.k),.opt (upO N c)]
def QpK:List AV:=[.val (.pointer none),.val (.int .i64 0),.val (.int .i64 0),.val (.int .i64 0),.val (.pointer none)]
theorem QcJ(N:List AV)(c:Cur):Q56 (upO N c):=by cases c<;>trivial
def Qg(l:List Node)(c:Cur):List Int:=(Qn l c.n).kids
def Q34(l:List Node)(c:Cur)(k:Int):Cur:=.kid ((Qg l c)[k.toNat]?.getD 0) (c.f+Q1Z l ((Qg l c).take k.toNat)) k c
def Qpw(len:List AV->Int):Nat->List AV->List Ob->Option (AV×List Ob):=fun f args _=>match f,args with
 |118,[.ref [.slc 6 xs]]=>some (.val (.int .i64 (len xs)),[])
 |_,_=>none
theorem QoT(l:List Node)(n:Int)(h0:0<=n)(h1:n<l.length):BCall prog 67 [.ref [.slc 6 (Q3 l)],.val (.int .i64 n)] [] (.tup [.agg ((Cur.root n).cs (Q3 l)),.val (.int .i64 0)]) []:=by
 have cL:=QbT l;have jB:Q5p (Q3 l)=l.length:=by rw[Q5p,Q1o]
 refine fnN (Qpw Q5p) func67 rfl fun _ _=>?_
 with_reducible refine cv2 Q5p (Q3 l) ?_
 refine⟨fun h=>?_,fun _=>⟨cL,fun h=>?_,fun _=>.pure rfl ⟨⟨.inl rfl,.inl rfl,.inl rfl,.inl rfl,.inr (.inr (.inl ⟨rfl,trivial⟩)),trivial⟩,.inl rfl,trivial⟩⟩⟩
 ·have h:n<0:=of_decide_eq_true h
  omega
 ·have h:Q5p (Q3 l)<=n:=of_decide_eq_true h
  omega
def QiF(kd:Int->List AV)(w:Int->Int):Nat->List AV->List Ob->Option (AV×List Ob):=fun f args _=>match f,args with
 |68,[.ref [.slc 6 _],.val (.int .i64 n)]=>some (.slc 1 (kd n),[])
 |58,[.ref [.slc 6 _],.val (.int .i64 n)]=>some (.val (.int .i64 (w n)),[])
 |_,_=>none
theorem QnI(l:List Node)(c:Cur)(k:Int)(h0:0<=k)(h1:k<(Qg l c).length)(hn:(Qg l c).length<=1000000)(hw:∀n,0<=Q1c l n)(hs:Q1Z l (Qg l c)<=2147483647)(qm:0<=c.f)(qn:c.f<=2147483647) :
  BCall prog 56 [.agg (c.cs (Q3 l)),.val (.int .i64 k)] [] (.tup [.agg ((Q34 l c k).cs (Q3 l)),.val (.bool true)]) []:=by
 have cK:=QlB l c.n (by show(Qg l c).length<=_;omega)
 have cW:=fun n=>Qn0 l n
 obtain⟨cn,gi⟩:=exq c.n;obtain⟨cf,ci⟩:=exq c.f;obtain⟨ck,z7⟩:=exq c.k;obtain⟨ks,yC⟩:=exq (Qg l c);obtain⟨m,hm⟩:=QE ks;have hkN:Q23 l cn=Q9 ks:=by rw[gi,yC];rfl
 rw[<-yC]at h1 hn hs;rw[<-ci]at qm qn;have cg:k<m:=by rw[hm.eq];exact h1
 have jB:=Q2w ks;have qe:std.len (Q23 l cn)=m:=by show((Q23 l cn).length:Int)=_;rw[hkN,jB,hm.eq]
 have hE:(Q34 l c k).cs (Q3 l)=[.ref [.slc 6 (Q3 l)],.val (.int .i64 (ks[k.toNat]?.getD 0)),.val (.int .i64 (cf+Q1Z l (ks.take k.toNat))),.val (.int .i64 k),.opt (.ref [.ref [.slc 6 (Q3 l)],.val (.int .i64 cn),.val (.int .i64 cf),.val (.int .i64 ck),.opt (upO (Q3 l) c)])]:=by
  rw[yC,ci,gi,z7];rfl
 rw[hE,Cur.cs,<-gi,<-ci,<-z7];rw[<-gi]at cK;have cK:BCall prog 68 [.ref [.slc 6 (Q3 l)],.val (.int .i64 cn)] [] (.slc 1 (Q23 l cn)) []:=cK;have jU:=Q2T (l:=ks) h0 h1
 have jT:std.cut (Q9 ks) 0 k=Q9 (ks.take k.toNat):=by
  show((Q9 ks).drop (0:Int).toNat).take (k-0).toNat=_
  simp[Q9,map_take]
 clear h1 hE;refine fnN (QiF (Q23 l) (Q1c l)) func56 rfl fun _ _=>?_
 with_reducible refine cv4 (Q23 l) (Q1c l) (upO (Q3 l) c) (Q3 l) ?_
 refine⟨cK,fun h=>?_,fun _=>⟨fun h=>?_,fun _=>⟨?_,?_⟩⟩⟩
 ·have h:k<0:=of_decide_eq_true h
  omega
 ·have h:std.len (Q23 l cn)<=k:=of_decide_eq_true h
  rw[qe]at h;omega
 ·show std.cutok 0 k (std.len (Q23 l cn))
  rw[qe];exact⟨Int.le_refl _,h0,by omega⟩
 have vH:std.len (Q9 (ks.take k.toNat))=k:=by
  show((Q9 (ks.take k.toNat)).length:Int)=k
  have:=hm.eq
  rw[Q2w,length_take];omega
 rw[<-hkN]at jT;obtain⟨aw,pf⟩:=exq (fun i=>cf+Q1Z l (ks.take i.toNat):Int->Int)
 have nU:cf+Q1Z l (ks.take k.toNat)=aw k:=by rw[pf]
 rw[nU];have kV:std.len (std.cut (Q23 l cn) 0 k)=k:=by rw[jT,vH]
 refine Q1h (QiF (Q23 l) (Q1c l)) (Int) (fun i=>⟨[(1,.val (.int .i64 k)),(2,.box 0 0),(4,.box 1 0),(6,.slc 1 (Q9 ks)),(7,.val (.int .i64 (aw i))),(28,.slc 1 (Q9 (ks.take k.toNat))),(29,.val (.int .i64 k)),(30,.val (.int .i64 i))],[.box [.ref [.slc 6 (Q3 l)],.val (.int .i64 cn),.val (.int .i64 cf),.val (.int .i64 ck),.opt (upO (Q3 l) c)],.box QpK]⟩) (fun i=>0<=i/\i<=k) (fun i=>(k-i).toNat) 0 ?_ ?_ ?_
 ·exact⟨Int.le_refl _,h0⟩
 ·refine⟨[some 0,some 1],_,rfl,?_⟩
  have kB:cf=aw 0:=by rw[pf];simp[Q1Z]
  repeat first
   |exact trivial
   |refine⟨gA hkN,?_⟩
   |refine⟨gA jT,?_⟩
   |refine⟨gI kV,?_⟩
   |refine⟨gI kB,?_⟩
   |refine⟨rfl,?_⟩
 ·rintro i ⟨jK,qE⟩
  have z6:=Q5P hw (ks.take i.toNat);have gj:=Q9y hw ks i.toNat;rcases Int.lt_or_eq_of_le qE with jA|jZ
  ·have qT:=hm.eq
   have jS:i.toNat<ks.length:=by omega
   have hx:(Q9 (ks.take k.toNat))[i.toNat]?.getD .dead=.val (.int .i64 (ks[i.toNat]?.getD 0)):=by
    have:=Q2T (l:=ks.take k.toNat) (i:=i) jK (by rw[length_take];omega)
    rw[this,getElem?_take,if_pos (by omega)]
   have hxc:=QdH (l:=ks.take k.toNat) (i:=i) jK (by rw[length_take];omega)
   rw[getElem?_take,if_pos (by omega)]at hxc
   have jO:Q1Z l (ks.take (i+1).toNat)=Q1Z l (ks.take i.toNat)+Q1c l (ks[i.toNat]?.getD 0):=by
    rw[show(i+1).toNat=i.toNat+1 by omega,List.take_add_one,getElem?_eq_getElem jS]
    show(((ks.take i.toNat)++[ks[i.toNat]]).map (Q1c l)).sum=_
    rw[map_append,sum_append];simp[Q1Z]
   have zP:=Q9y hw ks (i+1).toNat;rw[jO]at zP;have hw4:=hw (ks[i.toNat]?.getD 0);have ni:aw (i+1)=aw i+Q1c l (ks[i.toNat]?.getD 0):=by rw[pf];simp only[jO];omega
   have hawi:aw i=cf+Q1Z l (ks.take i.toNat):=by rw[pf]
   have v6:0<=aw i+Q1c l (ks[i.toNat]?.getD 0)/\aw i+Q1c l (ks[i.toNat]?.getD 0)<=4294967294:=by omega
   obtain⟨y,hy⟩:=exq (ks[i.toNat]?.getD 0);rw[<-hy]at hx hxc ni v6;clear qT z6 gj zP jO hw4 hawi pf nU;have hlt':=jA;with_reducible refine cv6 (Q23 l) (Q1c l) (upO (Q3 l) c) (Q3 l) (Q9 ks) (Q9 (ks.take k.toNat)) ?_
   have hy3:=hxc;have zc:=Ql3 hxc;have e1:aw i+Q1c l y=aw (i+1):=ni.symm;refine⟨fun _=>⟨?_,⟨?_,trivial⟩,cW _,?_,?_,i+1,⟨by omega,by omega⟩,by omega,[some 0,some 1],_,rfl,?_⟩,fun h=>?_⟩
   ·show 0<=i/\i<std.len (Q9 (ks.take k.toNat))
    rw[vH];omega
   ·show std.nth (std.cel (std.at_ (Q9 (ks.take k.toNat)) i)) 0=.val (.int .i64 (std.int (std.nth (std.cel (std.at_ (Q9 (ks.take k.toNat)) i)) 0)))
    rw[zc,hy3]
   ·show(-9223372036854775808:Int)<=aw i+Q1c l (std.int (std.nth (std.cel (std.at_ (Q9 (ks.take k.toNat)) i)) 0))/\aw i+Q1c l (std.int (std.nth (std.cel (std.at_ (Q9 (ks.take k.toNat)) i)) 0))<=(9223372036854775807:Int)
    rw[zc];omega
   ·show(-9223372036854775808:Int)<=i+1/\i+1<=(9223372036854775807:Int)
    have:=hm.eq
    omega
   ·have e2:std.add (aw i) (Q1c l (std.int (std.nth (std.cel (std.at_ (Q9 (ks.take k.toNat)) i)) 0)))=aw (i+1):=by rw[zc];exact e1
    exact eq1 e2
   ·have h:¬i<k:=of_decide_eq_false h
    omega
  ·rw[jZ]
   clear z6 gj pf nU;with_reducible refine cv6 (Q23 l) (Q1c l) (upO (Q3 l) c) (Q3 l) (Q9 ks) (Q9 (ks.take k.toNat)) ?_
   refine⟨fun h=>?_,fun _=>?_⟩
   ·have h:k<k:=of_decide_eq_true h
    omega
   rw[if_pos trivial];with_reducible refine cv6 (Q23 l) (Q1c l) (upO (Q3 l) c) (Q3 l) (Q9 ks) (Q9 (ks.take k.toNat)) ?_
   have hkm:=hm.eq;have hcl3:std.len (Q9 ks)=m:=by show((Q9 ks).length:Int)=m;rw[Q2w,hm.eq]
   have hc:=QdH (l:=ks) h0 (by omega)
   refine⟨?_,⟨QmM hc,trivial⟩,.pure rfl ⟨⟨.inl rfl,.inl (gI (Ql3 hc)),.inl rfl,.inl rfl,.inr (.inr (.inl ⟨rfl,trivial⟩)),trivial⟩,.inl rfl,trivial⟩⟩;show 0<=k/\k<std.len (Q9 ks);rw[hcl3];omega
def QpN(k:Int->Int):Nat->List AV->List Ob->Option (AV×List Ob):=fun f args _=>match f,args with
 |115,[.ref [.slc 6 _],.val (.int .i64 n)]=>some (.val (.int .i64 (k n)),[])
 |_,_=>none
theorem Qm8(l:List Node)(c:Cur):BCall prog 55 [.agg (c.cs (Q3 l))] [] (.val (.int .i64 (Qn l c.n).kind)) []:=by
 have cK:=QoJ l c.n;rw[Cur.cs];obtain⟨cn,gi⟩:=exq c.n;obtain⟨cf,ci⟩:=exq c.f;obtain⟨ck,z7⟩:=exq c.k;rw[<-gi]at cK ⊢;rw[<-ci,<-z7];refine fnN (QpN (Q1f l)) func55 rfl fun _ _=>?_
 with_reducible refine cv3 (Q1f l) (upO (Q3 l) c) (Q3 l) ?_
 exact⟨cK,.pure rfl (.inl rfl)⟩
structure CurOk (l:List Node) (c:Cur):Prop where
 n:(Qg l c).length<=1000000
 s:Q1Z l (Qg l c)<=2147483647
 f0:0<=c.f
 f1:c.f<=2147483647
end
def Qc2(g:Nat->Option (List Srt))(ty:Tys):Nat->List Field->Option (List Srt)
 |_,[]=>some []
 | off, f :: r => if f.name ≠ "_" ∧ f.offset = off ∧ (Q5 f.type ty).ok = true then
   (match g f.type,Qc2 g ty (off+(Q5 f.type ty).size) r with
   |some s,some q=>if s.length=(Q5 f.type ty).size then some (s++q)else none
   |_,_=>none)else none
def Qdf(P:Program)(ty:Tys):Nat->Nat->Option (List Srt)
 |0,_=>none
 |d+1,t=>match P.underlying t with
  |some (.struct fs)=>if P.stoodInHeld t=false then Qc2 (Qdf P ty d) ty 0 fs.toList else none
  |some .bool=>some [.boo]
  |some .string=>some [.str]
  |some (.int k)=>some [.int k]
  |_=>none
section
variable {P:Program}{ty:Tys}
def mkV(ty:Tys)(t:Nat)(xs:List Value):Value:=if(Q5 t ty).agg=true then .agg xs.toArray else xs.headD undef
def Q6u(xs ys:List Value):Bool:=(xs.zip ys).all fun q=>eqV q.1 q.2
theorem Qly{a b c d:List Value}(h:a.length=c.length):Q6u (a++b) (c++d)=(Q6u a c&&Q6u b d):=by
 unfold Q6u;rw[List.zip_append h,List.all_append]
theorem Q9B{xs:List Value}{sh:List Srt}(h:xs.map Q3z=sh.map some):xs.length=sh.length:=by
 have:=congrArg List.length h
 simpa using this
theorem Q6U{xs:List Value}{s:Srt}(h:xs.map Q3z=[s].map some):∃x,xs=[x]/\Q3z x=some s:=by
 cases xs with
 |nil=>cases h
 |cons x t =>
  obtain⟨h1,h2⟩:=List.cons.inj h;obtain rfl:t=[]:=by simpa using h2
  exact⟨x,rfl,h1⟩
theorem Q7S(hT:TyOk P ty){t:Nat}(hk:(Q5 t ty).ok=true){d:TypeDesc}(h:P.underlying t=some d):(Q5 t ty).agg=(Q2B d).1:=by
 obtain⟨d',h1,h2⟩:=(Q2S hT hk).u;rw[h]at h1;cases h1;rw[h2]
theorem Qhq(hT:TyOk P ty){t:Nat}(hk:(Q5 t ty).ok=true)(xs:List Value)(off:Nat)(hl:off+(Q5 t ty).size<=xs.length)(W:World) :
  (part t xs.toArray off).run P W=.ok (mkV ty t ((xs.drop off).take (Q5 t ty).size)) W:=by
 have ti:=Q2S hT hk;unfold part mkV;rw[Sem.run_bind,ti.isAgg W];simp only[Result.andThen_ok];by_cases hg:(Q5 t ty).agg=true
 ·rw[if_pos hg,if_pos hg,Sem.run_bind,ti.size W]
  simp only[Result.andThen_ok,Sem.run_pure];congr 2
  apply Array.toList_inj.1;simp[List.take_drop]
 ·rw[if_neg hg,if_neg hg]
  have h1:=ti.one (by simpa using hg)
  rw[h1];have h2:off<xs.length:=by omega
  have:xs.toArray[off]?=some xs[off]:=by simp[h2]
  rw[this,List.drop_eq_getElem_cons h2];rfl
theorem Qa1(hT:TyOk P ty){g:Nat->Option (List Srt)}{n:Nat}
  (ih:∀t sh,g t=some sh->(Q5 t ty).ok=true->∀(xs ys:List Value)(W:World),xs.map Q3z=sh.map some->ys.map Q3z=sh.map some->(Op.equalIn n t (mkV ty t xs) (mkV ty t ys)).run P W=.ok (Q6u xs ys) W) :
  ∀(fs:List Field)(off:Nat)(sh:List Srt),Qc2 g ty off fs=some sh->∀(xs ys:List Value)(W:World),off<=xs.length->off<=ys.length->(xs.drop off).map Q3z=sh.map some->(ys.drop off).map Q3z=sh.map some ->
   (Op.eqFields n xs.toArray ys.toArray fs).run P W=.ok (Q6u (xs.drop off) (ys.drop off)) W
 | [],off,sh,h,xs,ys,W,_,_,hx,hy=>by
  obtain rfl:[]=sh:=by simpa[Qc2]using h
  have hx:xs.drop off=[]:=by simpa using hx
  have hy:ys.drop off=[]:=by simpa using hy
  rw[hx,hy];rfl
 |f::r,off,sh,h,xs,ys,W,hox,hoy,hx,hy=>by
  simp only[Qc2]at h;split at h
  ·rename_i hf
   obtain⟨hn,ho,hk⟩:=hf;split at h
   ·rename_i s q hs hq
    split at h
    ·rename_i hl
     obtain rfl:s++q=sh:=by simpa using h
     have lx:=Q9B hx;have ly:=Q9B hy;rw[length_drop,length_append]at lx ly;have ex:xs.drop off=(xs.drop off).take s.length++xs.drop (off+s.length):=by rw[<-List.drop_drop,List.take_append_drop]
     have ey:ys.drop off=(ys.drop off).take s.length++ys.drop (off+s.length):=by rw[<-List.drop_drop,List.take_append_drop]
     have lxt:((xs.drop off).take s.length).length=s.length:=by rw[length_take,length_drop];omega
     have lyt:((ys.drop off).take s.length).length=s.length:=by rw[length_take,length_drop];omega
     rw[ex,map_append,map_append]at hx;rw[ey,map_append,map_append]at hy;obtain⟨yD,zz⟩:=List.append_inj hx (by simp only[length_map];exact lxt)
     obtain⟨zV,zc⟩:=List.append_inj hy (by simp only[length_map];exact lyt)
     have rc:=Qa1 hT ih r (off+(Q5 f.type ty).size) q hq xs ys;rw[<-hl]at rc;have one:=ih f.type s hs hk _ _ W yD zV;rw[ex,ey,Qly (by rw[lxt,lyt])]
     simp only[Op.eqFields];rw[if_pos hn,Sem.run_bind,ho,Qhq hT hk xs off (by omega) W]
     simp only[Result.andThen_ok];rw[Sem.run_bind,Qhq hT hk ys off (by omega) W]
     simp only[Result.andThen_ok];rw[Sem.run_bind,<-hl,one];simp only[Result.andThen_ok];cases hb:Q6u ((xs.drop off).take s.length) ((ys.drop off).take s.length)with
     |false=>simp
     |true=>simpa using rc W (by omega) (by omega) zz zc
    ·cases h
   ·cases h
  ·cases h
theorem Qc5(hT:TyOk P ty):∀(d e t:Nat)(sh:List Srt),Qdf P ty d t=some sh->(Q5 t ty).ok=true->∀(xs ys:List Value)(W:World),xs.map Q3z=sh.map some->ys.map Q3z=sh.map some ->
  (Op.equalIn (e+d) t (mkV ty t xs) (mkV ty t ys)).run P W=.ok (Q6u xs ys) W
 |0,_,_,_,h,_,_,_,_,_,_=>by cases h
 |d+1,e,t,sh,h,hk,xs,ys,W,hx,hy=>by
  simp only[Qdf]at h;split at h
  ·rename_i fs hu
   split at h
   ·rename_i hp
    have hg:(Q5 t ty).agg=true:=Q7S hT hk hu
    have hS:P.underlying t=some (.struct (P.fieldsOf t)):=by
     rw[hu];simp[Program.fieldsOf,hu]
    have hF:P.fieldsOf t=fs:=by simp[Program.fieldsOf,hu]
    unfold mkV;rw[if_pos hg,if_pos hg,<-add_assoc,run_equalIn_agg W _ _ _ _ hS hp,hF];exact Qa1 hT (fun t sh h hk xs ys W hx hy=>Qc5 hT d e t sh h hk xs ys W hx hy) fs.toList 0 sh h xs ys W (zero_le _) (zero_le _) hx hy
   ·cases h
  ·rename_i hu
   have hg:(Q5 t ty).agg=false:=Q7S hT hk hu;obtain rfl:[Srt.boo]=sh:=by simpa using h
   obtain⟨x,rfl,yD⟩:=Q6U hx;obtain⟨y,rfl,zV⟩:=Q6U hy;cases x<;>simp only[Q3z,Option.some.injEq,reduceCtorEq]at yD
   cases y<;>simp only[Q3z,Option.some.injEq,reduceCtorEq]at zV
   unfold mkV;rw[if_neg (by rw[hg];decide),if_neg (by rw[hg];decide)]
   rw[<-add_assoc];refine(run_equalIn_bool' W _ _ _ _ hu).trans ?_;simp[Q6u,eqV]
  ·rename_i hu
   have hg:(Q5 t ty).agg=false:=Q7S hT hk hu;obtain rfl:[Srt.str]=sh:=by simpa using h
   obtain⟨x,rfl,yD⟩:=Q6U hx;obtain⟨y,rfl,zV⟩:=Q6U hy;cases x<;>simp only[Q3z,Option.some.injEq,reduceCtorEq]at yD
   cases y<;>simp only[Q3z,Option.some.injEq,reduceCtorEq]at zV
   unfold mkV;rw[if_neg (by rw[hg];decide),if_neg (by rw[hg];decide)]
   rw[<-add_assoc];refine(run_equalIn_string W _ _ _ _ hu).trans ?_;simp[Q6u,eqV]
  ·rename_i k hu
   have hg:(Q5 t ty).agg=false:=Q7S hT hk hu;obtain rfl:[Srt.int k]=sh:=by simpa using h
   obtain⟨x,rfl,yD⟩:=Q6U hx;obtain⟨y,rfl,zV⟩:=Q6U hy;cases x<;>simp only[Q3z,Option.some.injEq,Srt.int.injEq,reduceCtorEq]at yD
   cases y<;>simp only[Q3z,Option.some.injEq,Srt.int.injEq,reduceCtorEq]at zV
   subst yD zV;unfold mkV;rw[if_neg (by rw[hg];decide),if_neg (by rw[hg];decide)]
   rw[<-add_assoc];refine(run_equalIn_int W _ _ _ _ _ _ hu).trans ?_;simp[Q6u,eqV]
  ·cases h
end
def gl(w:World):Gh:=⟨fun b _=>b<w.heap.size,fun _=>none,fun _=>0,fun _=>false⟩
theorem QqG(w:World):Mem w (gl w) [] :=
 ⟨(fun id cs h=>by simp at h),(fun id cs h=>by simp at h),(fun id s p h=>by simp at h),(fun b id h=>by cases h),(fun b o h=>⟨h,fun id h2=>by cases h2⟩),(fun id et sz fz e xs h=>by simp at h),(fun b h=>by cases h),(fun b b' id h=>by cases h)⟩
theorem BCall.law{P:Program}{f:Nat}{vs:List Value}{args:List AV}{res:Value}(h:BCall P f args [] (.val res) [])(w:World)(hL:Q4X w (gl w) [] vs args) :
  Calls P f vs.toArray w fun e w'=>e=.returned res/\Below w.heap.size w w' :=
 (h.2 w (gl w) vs (QqG w) hL).mono fun e w' ⟨v,g',k1,k2,k3,k4⟩=>by
  have hv:v=res:=ARel.valEq (g:=g') (w:=w') (ob:=[]) k3;subst hv;exact⟨k1,k4.os,k4.tape,k4.output,k4.size,fun b hb=>k4.keep b hb rfl⟩
theorem argL_nil{w:World}{g:Gh}{ob:List Ob}:Q4X w g ob [] []:=⟨rfl,fun j v x h=>by simp at h⟩
theorem argL_cons{w:World}{g:Gh}{ob:List Ob}{v:Value}{x:AV}{vs:List Value}{xs:List AV}(h:ARel1 w g ob v x)(hr:Q4X w g ob vs xs):Q4X w g ob (v::vs) (x::xs):=by
 refine⟨by simp[hr.1],fun j u y hu hy=>?_⟩
 cases j with
 |zero =>
  obtain rfl:v=u:=by simpa using hu
  obtain rfl:x=y:=by simpa using hy
  exact h
 |succ j=>exact hr.2 j u y (by simpa using hu) (by simpa using hy)
theorem okWide_spot{P:Program}{W:World}{r:Reach}{base:Nat}{t e:TypeId}{x:Addr}{l c:Nat}(ht:P.underlying t=some (.slice e))(h:Value.okWide P W r base t (.slice (some x) l c)):x.spot=none:=by
 simp only[Value.okWide,ht,Cell.okWide,Cell.ok]at h;exact h.2.2.2.1
def QqE(k:IntKind)(w:World)(a:Option Addr)(len cap:Nat)(zs:List Int):Prop :=
 (a=none/\len=0/\cap=0/\zs=[]) \/
 ∃x,a=some x/\len<=cap/\cap<=maxLen/\zs.length=cap/\(∀i,i<zs.length->w.cell? (x.add i)=some (.int k (zs.getD i 0)))/\∀n∈zs,(Lit.int k n).wf=true
theorem QqC{k:IntKind}{w:World}{a:Option Addr}{len cap:Nat}{zs:List Int}(h:QqE k w a len cap zs)(hs:∀x,a=some x->x.spot=none) :
  ARel1 w (gl w) [] (.slice a len cap) (.slc 1 ((zs.take len).map fun n=>.val (.int k n))):=by
 have hr:=(Qqo h).1
 have hl:len=((zs.take len).map fun n=>AV.val (.int k n)).length:=by
  rcases h with ⟨_,rfl,_,rfl⟩|⟨x,_,h1,_,h2,_⟩
  ·rfl
  ·simp;omega
 refine Qln hr (fun b o hb=>hb) hl (fun x hx=>by obtain⟨n,_,rfl⟩:=mem_map.1 hx;rfl) (fun x hx=>?_) ?_
 ·obtain⟨b,o,s⟩:=x
  exact⟨b,o,by rw[show s=none from hs _ hx]⟩
 ·have:QQ ((zs.take len).map fun n=>AV.val (.int k n))=((zs.take len).map (Value.int k)).map .val:=by
   generalize zs.take len=l;induction l with
   |nil=>rfl
   |cons n r ih=>simp only[map_cons,QQ,List.flatMap_cons]at ih ⊢;rw[ih];rfl
  rw[this];refine⟨by simp,fun j y u hy hu=>?_⟩
  rw[getElem?_map,hy]at hu;obtain rfl:AV.val y=u:=by simpa using hu
  obtain⟨n,_,rfl⟩:=mem_map.1 (List.mem_of_getElem? hy);exact PRel.val _ rfl
theorem QqK{n:Int}(h:(Lit.int .u8 n).wf=true):((UInt8.ofNat n.toNat).toNat:Int)=n:=by
 have h:0<=n/\n<=255:=by simpa[Lit.wf,IntKind.min,IntKind.max,IntKind.signed,IntKind.bits]using h
 rw[UInt8.toNat_ofNat'];omega
theorem arg_bytes{w:World}{a:Option Addr}{len cap:Nat}{zs:List Int}(h:QqE .u8 w a len cap zs)(hs:∀x,a=some x->x.spot=none) :
  ARel1 w (gl w) [] (.slice a len cap) (.slc 1 (Q2 ((zs.take len).map fun n=>UInt8.ofNat n.toNat))):=by
 have h1:=QqC h hs;have h2:=(Qqo h).2
 have e:Q2 ((zs.take len).map fun n=>UInt8.ofNat n.toNat)=(zs.take len).map fun n=>.val (.int .u8 n):=by
  rw[Q2,List.map_map];refine map_congr_left fun n hn=>?_
  show AV.val (.int .u8 ((UInt8.ofNat n.toNat).toNat:Int))=_;rw[QqK (h2 n hn)]
 rw[e];exact h1
def vEq:Value->Value->Bool
 |.int k a,.int k' b=>decide (k=k')&&decide (a=b)
 |.bool a,.bool b=>a == b
 |.string a,.string b=>decide (a.data.toList=b.data.toList)
 |.slice none a b,.slice none c d=>Nat.beq a c&&Nat.beq b d
 |.pointer none,.pointer none=>true
 |_,_=>false
def QjS{α:Type}(f:α->α->Bool):List α->List α->Bool
 | [],[]=>true
 |x::r,y::r'=>f x y&&QjS f r r'
 |_,_=>false
def aEq:Nat->AV->AV->Bool
 |0,_,_=>false
 |n+1,x,y=>match x,y with
  |.val a,.val b=>vEq a b
  |.slc s xs,.slc s' ys=>Nat.beq s s'&&QjS (aEq n) xs ys
  |.agg xs,.agg ys=>QjS (aEq n) xs ys
  |.ref xs,.ref ys=>QjS (aEq n) xs ys
  |.tup xs,.tup ys=>QjS (aEq n) xs ys
  |.box i o,.box j p=>Nat.beq i j&&Nat.beq o p
  |.row i o,.row j p=>Nat.beq i j&&Nat.beq o p
  |.rowk i o k,.rowk j p l=>Nat.beq i j&&(Nat.beq o p&&decide (k=l))
  |.rptr i o k z,.rptr j p l z'=>Nat.beq i j&&(Nat.beq o p&&(decide (k=l)&&Nat.beq z z'))
  |.kb a,.kb b=>a == b
  |.iter i,.iter j=>Nat.beq i j
  |.opt a,.opt b=>aEq n a b
  |.dead,.dead=>true
  |_,_=>false
section
variable {P:Program}{w0:World}{g0:Gh}{o0:List Ob}{N:Nat}{Q:Ex->St->Prop}
end
section
variable {p:Pr}{ty:Tys}{cs:Nat->List AV->List Ob->Option (AV×List Ob)}{C:Nat->List AV->List Ob->AV->List Ob->Prop}{B:Code->Prop}
end
section
variable {P:Program}{ty:Tys}{w0:World}{g0:Gh}{o0:List Ob}{N:Nat}{w:World}{a:Act}
end
def mvC(ρ:List Nat):AV->AV
 |.box i o=>match Q1X i ρ with|some j=>.box j o|none=>.dead
 |.row i e=>match Q1X i ρ with|some j=>.row j e|none=>.dead
 |.rowk _ _ _=>.dead
 |.rptr _ _ _ _=>.dead
 |.iter _=>.dead
 |.kb b=>.val (.bool b)
 |x=>x
def mv1(ρ:List Nat):AV->AV
 |.agg cs=>.agg (cs.map (mvC ρ))
 |x=>mvC ρ x
def mvR(ρ:List Nat):AV->AV
 |.tup xs=>.tup (xs.map (mv1 ρ))
 |x=>mv1 ρ x
def QpB:AV->Bool
 |.tup xs=>xs.all fun|.tup _=>false|_=>true
 |_=>true
theorem Qet:∀xs:List AV,leL xs xs
 | []=>trivial
 |_::r=>⟨.inl rfl,Qet r⟩
theorem Q21{x:AV}(h:∀xs,x≠.tup xs):QeH x x:=by
 cases x with
 |agg cs=>exact Qet cs
 |tup xs=>exact absurd rfl (h xs)
 |_=>exact .inl rfl
theorem Qk3{x:AV}(h:QpB x=true):leA x x:=by
 cases x with
 |tup xs =>
  have key:∀xs:List AV,(xs.all fun|.tup _=>false|_=>true)=true->leT xs xs:=by
   intro xs;induction xs with
   |nil=>intro _;trivial
   |cons y r ih =>
    intro h;simp only[List.all_cons,Bool.and_eq_true]at h;exact⟨Q21 (fun zs e=>by rw[e]at h;cases h.1),ih h.2⟩
  exact key xs h
 |val a=>exact Q21 (x:=.val a) (fun xs e=>nomatch e)
 |slc a b=>exact Q21 (x:=.slc a b) (fun xs e=>nomatch e)
 |agg a=>exact Q21 (x:=.agg a) (fun xs e=>nomatch e)
 |ref a=>exact Q21 (x:=.ref a) (fun xs e=>nomatch e)
 |box a b=>exact Q21 (x:=.box a b) (fun xs e=>nomatch e)
 |row a b=>exact Q21 (x:=.row a b) (fun xs e=>nomatch e)
 |rowk a b c=>exact Q21 (x:=.rowk a b c) (fun xs e=>nomatch e)
 |rptr a b c d=>exact Q21 (x:=.rptr a b c d) (fun xs e=>nomatch e)
 |kb a=>exact Q21 (x:=.kb a) (fun xs e=>nomatch e)
 |iter a=>exact Q21 (x:=.iter a) (fun xs e=>nomatch e)
 |opt a=>exact Q21 (x:=.opt a) (fun xs e=>nomatch e)
 |dead=>exact Q21 (x:=.dead) (fun xs e=>nomatch e)
section
open Tryz
section
variable {P:Program}{ty:Tys}
theorem Qbf{e:Nat}{k:IntKind}{d:Nat}{xs ys:List Value}{W:World}
  (jR:∀a b,(Op.equalIn d e (.int k a) (.int k b)).run P W=.ok (a == b) W) (px:∀i,i<xs.length->∃a,xs[i]?=some (.int k a)/\(part e xs.toArray i).run P W=.ok (.int k a) W)
  (py:∀i,i<xs.length->∃a,ys[i]?=some (.int k a)/\(part e ys.toArray i).run P W=.ok (.int k a) W) (hl:ys.length=xs.length)
  (g:Option Bool×Unit->Sem Bool) (hg:∀b W,(g (some b,())).run P W=.ok b W) (hg0:∀W,(g (none,())).run P W=.ok true W) :
  ∀(m s:Nat),s+m=xs.length->((forIn (List.range' s m) ((none,()):Option Bool×Unit) (fun i _=>do
    let a <-part e xs.toArray i
    let b <-part e ys.toArray i
    let r <-Op.equalIn d e a b
    if(!r)=true then pure (ForInStep.done (some false,()))else pure (ForInStep.yield (none,()))):Sem (Option Bool×Unit)).run P W).andThen (fun r W'=>(g r).run P W')=.ok (Q6u (xs.drop s) (ys.drop s)) W
 |0,s,h=>by
  rw[List.drop_of_length_le (by omega),List.drop_of_length_le (by omega)]
  show((pure (none,()):Sem _).run P W).andThen _=_
  rw[Sem.run_pure];simp only[Result.andThen_ok,hg0];rfl
 |m+1,s,h=>by
  obtain⟨a,ha,pa⟩:=px s (by omega)
  obtain⟨b,hb,pb⟩:=py s (by omega)
  have ih:=Qbf jR px py hl g hg hg0 m (s+1) (by omega)
  have jL:s<xs.length:=by omega
  have jW:s<ys.length:=by omega
  rw[getElem?_eq_getElem jL]at ha;rw[getElem?_eq_getElem jW]at hb;rw[List.drop_eq_getElem_cons jL,List.drop_eq_getElem_cons jW,Option.some.inj ha,Option.some.inj hb];rw[List.range'_succ,List.forIn_cons];simp only[Sem.run_bind,pa,pb,jR,Result.andThen_ok,Sem.run_ite]
  have ev:Q6u (Value.int k a::xs.drop (s+1)) (Value.int k b::ys.drop (s+1))=((a == b)&&Q6u (xs.drop (s+1)) (ys.drop (s+1))):=by
   unfold Q6u;simp[eqV]
  rw[ev];cases hq:a == b with
  |false=>simp only[Bool.not_false,if_true,Sem.run_pure,Result.andThen_ok,hg,Bool.false_and]
  |true =>
   simp only[Bool.not_true,Bool.false_eq_true,if_false,Sem.run_pure,Result.andThen_ok,Bool.true_and];exact ih
theorem Qdn(hT:TyOk P ty){t e n:Nat}{k:IntKind}(h:P.underlying t=some (.array n e))(he:P.underlying e=some (.int k))(hk:(Q5 e ty).ok=true)(hs:(Q5 e ty).size=1)(d:Nat)(xs ys:List Value)(W:World)(jR:∀a b,(Op.equalIn d e (.int k a) (.int k b)).run P W=.ok (a == b) W)
  (hx:xs.map Q3z=(List.replicate n (Srt.int k)).map some) (hy:ys.map Q3z=(List.replicate n (Srt.int k)).map some) :
  (Op.equalIn (d+1) t (.agg xs.toArray) (.agg ys.toArray)).run P W=.ok (Q6u xs ys) W:=by
 have ti:=Q2S hT hk;have nE:(Q5 e ty).agg=false:=Q7S hT hk he;have lx:=Q9B hx;have ly:=Q9B hy;rw[List.length_replicate]at lx ly
 have vx:∀i,i<n->∃a,xs[i]?=some (.int k a):=fun i hi=>by
  have h2:=congrArg (·[i]?) hx;simp only[getElem?_map,List.getElem?_replicate]at h2;rw[if_pos hi,getElem?_eq_getElem (by omega)]at h2
  rw[getElem?_eq_getElem (by omega)]
  generalize xs[i]=x at h2;cases x<;>simp[Q3z]at h2
  subst h2;exact⟨_,rfl⟩
 have vy:∀i,i<n->∃a,ys[i]?=some (.int k a):=fun i hi=>by
  have h2:=congrArg (·[i]?) hy;simp only[getElem?_map,List.getElem?_replicate]at h2;rw[if_pos hi,getElem?_eq_getElem (by omega)]at h2
  rw[getElem?_eq_getElem (by omega)]
  generalize ys[i]=x at h2;cases x<;>simp[Q3z]at h2
  subst h2;exact⟨_,rfl⟩
 have px:∀(zs:List Value)(i:Nat)(v:Value),zs[i]?=some v->(part e zs.toArray i).run P W=.ok v W:=fun zs i v hv=>by
  unfold part;rw[Sem.run_bind,ti.isAgg W];simp only[Result.andThen_ok];rw[if_neg (by rw[nE];decide)]
  have:zs.toArray[i]?=some v:=by simpa using hv
  rw[this];rfl
 simp only[Op.equalIn,Sem.run_bind,run_underlying h,Result.andThen_ok,ti.size W,hs,Nat.mul_one];simp only[Std.Legacy.Range.forIn_eq_forIn_range',Std.Legacy.Range.size,Nat.sub_zero,Nat.add_sub_cancel,Nat.div_one]
 have key:=Qbf (P:=P) (W:=W) (xs:=xs) (ys:=ys) jR (fun i hi=>by
  obtain⟨a,ha⟩:=vx i (by omega)
  exact⟨a,ha,px xs i _ ha⟩) (fun i hi=>by
  obtain⟨a,ha⟩:=vy i (by omega)
  exact⟨a,ha,px ys i _ ha⟩) (by omega) (fun r=>match r.fst with
    |some r=>pure r
    |none=>pure true) (fun b W=>rfl) (fun W=>rfl) n 0 (by omega)
 rw[drop_zero,drop_zero]at key;refine Eq.trans (congr (congrArg Result.andThen ?_) ?_) key
 ·rfl
 ·funext r W'
  obtain⟨r,_⟩:=r;cases r<;>rfl
def Q9J(P:Program)(ty:Tys):Nat->Nat->Option (List Srt)
 |0,_=>none
 |d+1,t=>match P.underlying t with
  |some (.struct fs)=>if P.stoodInHeld t=false then Qc2 (Q9J P ty d) ty 0 fs.toList else none
  |some (.array n e)=>match P.underlying e with
   |some (.int k)=>if d≠0/\(Q5 e ty).ok=true/\(Q5 e ty).size=1 then some (List.replicate n (.int k))else none
   |_=>none
  |_=>Qdf P ty (d+1) t
theorem Qbk(hT:TyOk P ty):∀(d f t:Nat)(sh:List Srt),Q9J P ty d t=some sh->(Q5 t ty).ok=true->∀(xs ys:List Value)(W:World),xs.map Q3z=sh.map some->ys.map Q3z=sh.map some ->
  (Op.equalIn (f+d) t (mkV ty t xs) (mkV ty t ys)).run P W=.ok (Q6u xs ys) W
 |0,_,_,_,h,_,_,_,_,_,_=>by cases h
 |d+1,f,t,sh,h,hk,xs,ys,W,hx,hy=>by
  simp only[Q9J]at h;split at h
  ·rename_i fs hu
   split at h
   ·rename_i hp
    have hg:(Q5 t ty).agg=true:=Q7S hT hk hu
    have hS:P.underlying t=some (.struct (P.fieldsOf t)):=by
     rw[hu];simp[Program.fieldsOf,hu]
    have hF:P.fieldsOf t=fs:=by simp[Program.fieldsOf,hu]
    unfold mkV;rw[if_pos hg,if_pos hg,<-add_assoc,run_equalIn_agg W _ _ _ _ hS hp,hF];exact Qa1 hT (fun t sh h hk xs ys W hx hy=>Qbk hT d f t sh h hk xs ys W hx hy) fs.toList 0 sh h xs ys W (zero_le _) (zero_le _) hx hy
   ·cases h
  ·rename_i n e hu
   split at h
   ·rename_i k he
    split at h
    ·rename_i hc
     obtain rfl:List.replicate n (Srt.int k)=sh:=by simpa using h
     have hg:(Q5 t ty).agg=true:=Q7S hT hk hu;unfold mkV;rw[if_pos hg,if_pos hg,<-add_assoc];obtain⟨d',rfl⟩:∃d',d=d'+1:=⟨d-1,by omega⟩
     exact Qdn hT hu he hc.2.1 hc.2.2 _ xs ys W (fun a b=>run_equalIn_int W _ _ _ _ _ _ he) hx hy
    ·cases h
   ·cases h
  ·exact Qc5 hT (d+1) f t sh h hk xs ys W hx hy
theorem EqOk.planA(hT:TyOk P ty){T:Nat}{sh:List Srt}(h:Q9J P ty 8 T=some sh)(hk:(Q5 T ty).ok=true)(ha:(Q5 T ty).agg=true)(hg:P.eqGuardType P.depth T=false):EqOk P T sh:=by
 intro xs ys x y W hx hy;have key:=Qbk hT 8 9992 T sh h hk xs ys W hx hy;unfold mkV at key;rw[if_pos ha,if_pos ha]at key;refine⟨run_eqGuard_agg W _ _ _ _ _ _ hg,run_eqGuard_agg W _ _ _ _ _ _ hg,?_,?_⟩
 ·rw[run_eql_struct]
  rw[show(10000:Nat)=9992+8 from rfl,key];rfl
 ·rw[run_neq_struct]
  rw[show(10000:Nat)=9992+8 from rfl,key];rfl
end
theorem QpI:EqOk prog 85 (List.replicate 26 (.int .i64)):=EqOk.planA Q6k (by kernel_rfl) (by kernel_rfl) (by kernel_rfl) (by kernel_rfl)
