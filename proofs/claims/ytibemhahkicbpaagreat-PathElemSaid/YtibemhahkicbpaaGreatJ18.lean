/- Lemmas, conditions told -/
import Derived.Test.YtibemhahkicbpaaGreatJ14
set_option maxRecDepth 99999
set_option maxHeartbeats 0
set_option linter.unusedSimpArgs false
set_option linter.unusedVariables false
namespace Go.Proofs.YtibemhahkicbpaaGreat
open List(length_drop length_cons length_nil)
open Go.RowKit Go.Lib
section
open Tryz
def Qpq(big:Bool)(b:List UInt8)(I:Int->Int->Int->Bool)(x:List Itm×Int):Nat->List AV->List Ob->Option (AV×List Ob):=Qbh (uAt big b x.2.toNat) (uAt big b (x.2+2).toNat) I
theorem Qib{big:Bool}{b:List UInt8}{a:Int}{u v:Int}(h0:0<=a)(x y:UInt8)(r:List UInt8)(hr:b.drop a.toNat=x::y::r)(hu:u=uAt big b a.toNat)(hv:v=uAt big b (a+2).toNat) :
  Q1j big (x::y::r)=if(55296<=u/\u<56320)/\a+3<b.length/\(56320<=v/\v<57344)then(65536+(u-55296) * 1024+(v-56320),4)else if 55296<=u/\u<57344 then(-1,2)else(u,2):=by
 rw[QcP hr]at hu
 have hl:(b.length:Int)=a+2+r.length:=by
  have:=congrArg List.length hr
  rw[length_drop]at this;simp only[length_cons]at this;omega
 match r,hr,hl with
 | [],hr,hl=>rw[if_neg (fun e=>by simp only[length_nil]at hl;omega),hu];rfl
 | [z],hr,hl=>rw[if_neg (fun e=>by simp only[List.length_singleton]at hl;omega),hu];rfl
 |x2::y2::r',hr,hl =>
  have hd:b.drop (a+2).toNat=x2::y2::r':=by
   rw[show(a+2).toNat=a.toNat+2 by omega,<-List.drop_drop,hr];rfl
  rw[QcP hd]at hv;have hL:a+3<b.length:=by simp only[length_cons]at hl;omega
  have e:((55296<=u/\u<56320)/\a+3<b.length/\(56320<=v/\v<57344))=((55296<=u/\u<56320)/\(56320<=v/\v<57344)):=by simp[hL]
  rw[hu,hv]at *;simp only[e];rfl
theorem QhN(big:Bool)(b:List UInt8)(hb:b.length<=1000000000):BCall prog 52 [.slc 1 (Q2 b),.val (.bool big)] [] (.slc 3 (QP (Q1x big 0 b))) []:=by
 obtain⟨n,hn⟩:=QE b;have jV:=Q11 b;have cI:=QpD;obtain⟨I,hI⟩:=exq isU;have xz:∀u lo hi,I u lo hi=(decide (lo<=u)&&decide (u<=hi)):=fun u lo hi=>by rw[hI];rfl
 rw[<-hI]at cI;clear hI;refine fnN (Qbh 0 0 I) func52 rfl fun _ _=>?_
 with_reducible refine cv1 (Q2 b) ?_
 refine Q46 (cs:=Qpq big b I) (ord:=fun _=>.nil) Q6k (by kernel_rfl) (by kernel_rfl) (by kernel_rfl) (X:=List Itm×Int) (fun x=>⟨[(0,.slc 1 (Q2 b)),(1,.val (.bool big)),(5,.row 0 0),(6,.val (.int .i64 x.2))],[.row 58 3 false 0 (QP x.1)]⟩) (fun x=>0<=x.2/\x.2.toNat<=b.length/\x.1++Q1x big x.2 (b.drop x.2.toNat)=Q1x big 0 b/\x.1.length<=x.2.toNat) (fun x=>b.length-x.2.toNat) ([],0) ?_ ?_ ?_
 ·simp
 ·exact⟨[none],_,rfl,by simp[Qe,lk,QP]⟩
 ·rintro⟨out,a⟩ ⟨js,qE,j9,j6⟩
  simp only at js qE j9 j6
  have ql:(b.drop a.toNat).length=b.length-a.toNat:=length_drop;have jR:=Q3m out;have nG:out.length<=1000000000:=by omega
  obtain⟨u,hu⟩:=exq (uAt big b a.toNat);obtain⟨v,hv⟩:=exq (uAt big b (a+2).toNat);have hcs:Qpq big b I (out,a)=Qbh u v I:=by rw[hu,hv];rfl
  rw[hcs];clear hcs;have qA:n<=1000000000:=by have:=hn.eq;omega
  match hr:b.drop a.toNat with
  | [] =>
   rw[hr,length_nil]at ql;have hna:a=n:=by have:=hn.eq;omega
   have kN:out=Q1x big 0 b:=by rw[<-j9,hr,Q1x,dif_pos rfl,List.append_nil]
   have jA:¬a<n:=by omega
   clear jV ql hu hv j9 j6 hna;with_reducible refine cv2 (Q2 b) (QP out) ?_
   have jB:(((Q2 b).length:Nat):Int)=n:=by have:=hn.eq;have:=Q11 b;omega
   with_reducible repeat' first|refine aU (zA jB jA) ?_|refine zA ?_ ?_|intro hb
   rw[if_pos trivial];with_reducible refine cv2 (Q2 b) (QP out) ?_
   exact .pure rfl (.inl (by rw[kN]))
  | [x] =>
   rw[hr,List.length_singleton]at ql;have hna:a+1=n:=by have:=hn.eq;omega
   have jA:a<n:=by omega
   have kN:Q1x big 0 b=out++[⟨-1,a,1⟩]:=by
    rw[<-j9,hr,Q1x,dif_neg (by simp),show([x].drop (Q1j big [x]).2.toNat)=[] from rfl,Q1x,dif_pos rfl];rfl
   rw[kN,Q1I,Q1J];have hoL1:out.length+1<=1000000000:=by omega
   clear jV ql hu hv j9 j6 kN;with_reducible refine cv2 (Q2 b) (QP out) ?_
   have jB:(((Q2 b).length:Nat):Int)=n:=by have:=hn.eq;have:=Q11 b;omega
   with_reducible repeat' first|refine aU (zA jB <| zA jA <| zA hna <| zA jR js) ?_|refine zA ?_ ?_|intro hb
   all_goals
    with_reducible refine cv2 (Q2 b) (QP out) ?_
    exact .pure rfl (.inl rfl)
  |x::y::r =>
   have jH:=Qib js x y r hr hu hv
   have hU:BCall prog 107 [.slc 1 (std.cut (Q2 b) a (a+2)),.val (.bool big)] [] (.val (.int .i64 u)) []:=by
    rw[QmD js hr,hu,QcP hr];exact QgS big x y
   have v9:a+3<b.length->BCall prog 107 [.slc 1 (std.cut (Q2 b) (a+2) (a+4)),.val (.bool big)] [] (.val (.int .i64 v)) []:=fun hL=>by
    have hl:(b.length:Int)=a+2+r.length:=by
     have:=congrArg List.length hr
     rw[length_drop]at this;simp only[length_cons]at this;omega
    match r,hr,hl with
    | [],hr,hl=>simp only[length_nil]at hl;omega
    | [z],hr,hl=>simp only[List.length_singleton]at hl;omega
    |x2::y2::r',hr,hl =>
     have hd:b.drop (a+2).toNat=x2::y2::r':=by
      rw[show(a+2).toNat=a.toNat+2 by omega,<-List.drop_drop,hr];rfl
     rw[Ql5 js hr,hv,QcP hd];exact QgS big x2 y2
   have pF:0<=u/\u<65536:=by rw[hu];exact Q33 _ _ _
   have p7:0<=v/\v<65536:=by rw[hv];exact Q33 _ _ _
   rw[hr]at j9 ql;simp only[length_cons]at ql;have jA:a<n:=by have:=hn.eq;omega
   have vL:¬a+1=n:=by have:=hn.eq;omega
   have z7:a+2<=n:=by have:=hn.eq;omega
   have wu:IntKind.wrap .i32 u=u:=Q5n u (by omega) (by omega)
   have next:∀R N:Int,Q1j big (x::y::r)=(R,N)->0<=a+N/\(a+N).toNat<=b.length/\out++[⟨R,a,N⟩]++Q1x big (a+N) (b.drop (a+N).toNat)=Q1x big 0 b/\(out++[(⟨R,a,N⟩:Itm)]).length<=(a+N).toNat/\b.length-(a+N).toNat<b.length-a.toNat:=fun R N h9=>Q2J js qE (by rw[hr];exact j9) j6 hr (by simp) h9
   have hoL1:out.length+1<=1000000000:=by omega
   clear hu hv j9 ql jV;by_cases s1:55296<=u/\u<57344
   ·have f1:I u 55296 57343=true:=by rw[xz];simp;omega
    by_cases s2:u<56320
    ·have f2:I u 55296 56319=true:=by rw[xz];simp;omega
     by_cases hL:a+3<n
     ·have xn:a+3<b.length:=by have:=hn.eq;omega
      have v9:=v9 xn;by_cases s3:56320<=v/\v<57344
      ·have f3:I v 56320 57343=true:=by rw[xz];simp;omega
       have hq:Q1j big (x::y::r)=(65536+(u-55296) * 1024+(v-56320),4):=by
        rw[jH,if_pos ⟨⟨s1.1,s2⟩,xn,s3⟩]
       have jI:=next _ _ hq
       have kQ:a+4<=n:=by omega
       obtain⟨P,hP⟩:=exq (65536+(u-55296) * 1024+(v-56320));have eP:65536+1024 * (u-55296)+v-56320=P:=by omega
       have wP:IntKind.wrap .i32 (65536+1024 * (u-55296)+v-56320)=P:=by rw[eP];exact Q5n P (by omega) (by omega)
       rw[<-hP]at jI;clear next jH hq hP
       with_reducible refine cv2 (Q2 b) (QP out) ?_
       have jB:(((Q2 b).length:Nat):Int)=n:=by have:=hn.eq;have:=Q11 b;omega
       with_reducible repeat' first|refine aU (zA jB <| zA jA <| zA vL <| zA z7 <| zA jR <| zA js <| zA wu <| zA f1 <| zA f2 <| zA f3 <| zA hL <| zA kQ wP) ?_|refine zA ?_ ?_|intro hb
       all_goals first
        |exact hU
        |exact v9
        |exact cI _ _ _
        |(refine⟨(out++[⟨P,a,4⟩],a+4),⟨jI.1,jI.2.1,jI.2.2.1,jI.2.2.2.1⟩,jI.2.2.2.2,[some 0],_,rfl,?_⟩;simp[Qe,lk,std,AV.cells,intOf,Q1I,Q1J,wu,f1,f2,f3,hL,kQ,wP])
      ·have f3:I v 56320 57343=false:=by rw[xz];simp;omega
       have hq:Q1j big (x::y::r)=(-1,2):=by
        rw[jH,if_neg (fun e=>s3 e.2.2),if_pos s1]
       have jI:=next _ _ hq
       have kQ:a+4<=n:=by omega
       clear next jH hq
       with_reducible refine cv2 (Q2 b) (QP out) ?_
       have jB:(((Q2 b).length:Nat):Int)=n:=by have:=hn.eq;have:=Q11 b;omega
       with_reducible repeat' first|refine aU (zA jB <| zA jA <| zA vL <| zA z7 <| zA jR <| zA js <| zA wu <| zA f1 <| zA f2 <| zA f3 <| zA hL kQ) ?_|refine zA ?_ ?_|intro hb
       all_goals first
        |exact hU
        |exact v9
        |exact cI _ _ _
        |(refine⟨(out++[⟨-1,a,2⟩],a+2),⟨jI.1,jI.2.1,jI.2.2.1,jI.2.2.2.1⟩,jI.2.2.2.2,[some 0],_,rfl,?_⟩;simp[Qe,lk,std,AV.cells,intOf,Q1I,Q1J,wu,f1,f2,f3,hL,kQ])
     ·have xn:¬a+3<b.length:=by have:=hn.eq;omega
      have hq:Q1j big (x::y::r)=(-1,2):=by
       rw[jH,if_neg (fun e=>xn e.2.1),if_pos s1]
      have jI:=next _ _ hq
      clear next jH hq
      with_reducible refine cv2 (Q2 b) (QP out) ?_
      have jB:(((Q2 b).length:Nat):Int)=n:=by have:=hn.eq;have:=Q11 b;omega
      with_reducible repeat' first|refine aU (zA jB <| zA jA <| zA vL <| zA z7 <| zA jR <| zA js <| zA wu <| zA f1 <| zA f2 hL) ?_|refine zA ?_ ?_|intro hb
      all_goals first
       |exact hU
       |exact v9
       |exact cI _ _ _
       |(refine⟨(out++[⟨-1,a,2⟩],a+2),⟨jI.1,jI.2.1,jI.2.2.1,jI.2.2.2.1⟩,jI.2.2.2.2,[some 0],_,rfl,?_⟩;simp[Qe,lk,std,AV.cells,intOf,Q1I,Q1J,wu,f1,f2,hL])
    ·have f2:I u 55296 56319=false:=by rw[xz];simp;omega
     have hq:Q1j big (x::y::r)=(-1,2):=by
      rw[jH,if_neg (fun e=>s2 e.1.2),if_pos s1]
     have jI:=next _ _ hq
     clear next jH hq
     with_reducible refine cv2 (Q2 b) (QP out) ?_
     have jB:(((Q2 b).length:Nat):Int)=n:=by have:=hn.eq;have:=Q11 b;omega
     with_reducible repeat' first|refine aU (zA jB <| zA jA <| zA vL <| zA z7 <| zA jR <| zA js <| zA wu <| zA f1 f2) ?_|refine zA ?_ ?_|intro hb
     all_goals first
      |exact hU
      |exact v9
      |exact cI _ _ _
      |(refine⟨(out++[⟨-1,a,2⟩],a+2),⟨jI.1,jI.2.1,jI.2.2.1,jI.2.2.2.1⟩,jI.2.2.2.2,[some 0],_,rfl,?_⟩;simp[Qe,lk,std,AV.cells,intOf,Q1I,Q1J,wu,f1,f2])
   ·have f1:I u 55296 57343=false:=by rw[xz];simp;omega
    have f2:I u 55296 56319=false:=by rw[xz];simp;omega
    have hq:Q1j big (x::y::r)=(u,2):=by
     rw[jH,if_neg (fun e=>s1 ⟨e.1.1,by omega⟩),if_neg s1]
    have jI:=next _ _ hq
    clear next jH hq
    with_reducible refine cv2 (Q2 b) (QP out) ?_
    have jB:(((Q2 b).length:Nat):Int)=n:=by have:=hn.eq;have:=Q11 b;omega
    with_reducible repeat' first|refine aU (zA jB <| zA jA <| zA vL <| zA z7 <| zA jR <| zA js <| zA wu <| zA f1 f2) ?_|refine zA ?_ ?_|intro hb
    all_goals first
     |exact hU
     |exact v9
     |exact cI _ _ _
     |(refine⟨(out++[⟨u,a,2⟩],a+2),⟨jI.1,jI.2.1,jI.2.2.1,jI.2.2.2.1⟩,jI.2.2.2.2,[some 0],_,rfl,?_⟩;simp[Qe,lk,std,AV.cells,intOf,Q1I,Q1J,wu,f1,f2])
