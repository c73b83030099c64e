/-
  Parts of the proof, joined: Yb. Conditions: as each theorem says.
-/
import Derived.Test.YthbjpdijafccjaaGreatQE07
set_option maxRecDepth 100000
set_option maxHeartbeats 8000000
namespace Go.Proofs.YthbjpdijafccjaaGreat
open Go.RowKit Go.Lib Tryz
def QmF (big:Bool)(b:List UInt8)(I:Int→Int→Int→Bool)(x:List Itm×Int):Nat→List AV→List Ob→Option (AV×List Ob):=Q9I (uAt big b x.2.toNat) (uAt big b (x.2+2).toNat) I
theorem Qgn {big:Bool}{b:List UInt8}{a:Int}{u v:Int}(h0:0≤a)(x y:UInt8)(r:List UInt8)(hr:b.drop a.toNat=x::y::r)(hu:u=uAt big b a.toNat)(hv:v=uAt big b (a+2).toNat) :
  Q1c big (x::y::r)=if (55296≤u∧u<56320)∧a+3<b.length∧(56320≤v∧v<57344) then (65536+(u-55296) * 1024+(v-56320),4) else if 55296≤u∧u<57344 then (-1,2) else (u,2):=by
 rw[Qbs hr] at hu
 have hl:(b.length:Int)=a+2+r.length:=by
  have:=congrArg List.length hr
  rw[List.length_drop] at this
  simp only[List.length_cons] at this
  omega
 match r,hr,hl with
 | [],hr,hl=>rw[if_neg (fun e=>by simp only[List.length_nil] at hl;omega),hu];rfl
 | [z],hr,hl=>rw[if_neg (fun e=>by simp only[List.length_singleton] at hl;omega),hu];rfl
 |x2::y2::r',hr,hl =>
  have hd:b.drop (a+2).toNat=x2::y2::r':=by
   rw[show (a+2).toNat=a.toNat+2 by omega,←List.drop_drop,hr];rfl
  rw[Qbs hd] at hv
  have hL:a+3<b.length:=by simp only[List.length_cons] at hl;omega
  have e:((55296≤u∧u<56320)∧a+3<b.length∧(56320≤v∧v<57344))=((55296≤u∧u<56320)∧(56320≤v∧v<57344)):=by simp[hL]
  rw[hu,hv] at *
  simp only[e]
  rfl
theorem QgS (big:Bool)(b:List UInt8)(hb:b.length≤1000000000):BCall prog 63 [.slc 1 (Q2 b),.val (.bool big)] [] (.slc 3 (QW (Q1o big 0 b))) []:=by
 obtain⟨n,hn⟩:=Qy b
 have hbl:=Q10 b
 have cI:=QmN
 obtain⟨I,hI⟩:=exq isU
 have hIv:∀ u lo hi,I u lo hi=(decide (lo≤u)&&decide (u≤hi)):=fun u lo hi=>by rw[hI];rfl
 rw[←hI] at cI
 clear hI
 refine fnN (cs:=Q9I 0 0 I) func63 rfl (by kernel_rfl) ?_
 intro w0 g0
 generalize hp:std=p,hbs:Q2 b=bs
 generalize hT:Q5 p tys (Q9I 0 0 I) _ _ _ _=T
 cbv at hT
 subst hT
 simp only[Tree.ok,Q1,S0]
 subst hp hbs
 refine Q4F (cs:=QmF big b I) (ord:=fun _=>.nil) Q6O (by kernel_rfl) (by kernel_rfl) (by kernel_rfl) (X:=List Itm×Int) (fun x=>⟨[(0,.slc 1 (Q2 b)),(1,.val (.bool big)),(5,.row 0 0),(6,.val (.int .i64 x.2))],[.row 101 3 false 0 (QW x.1)]⟩) (fun x=>0≤x.2∧x.2.toNat≤b.length∧x.1++Q1o big x.2 (b.drop x.2.toNat)=Q1o big 0 b∧x.1.length≤x.2.toNat) (fun x=>b.length-x.2.toNat) ([],0) ?_ ?_ ?_
 ·simp
 ·exact⟨[none],_,rfl,by simp[Qe,lk,QW]⟩
 ·rintro⟨out,a⟩ ⟨hJ0,hJ1,hJ2,hJ3⟩
  simp only at hJ0 hJ1 hJ2 hJ3
  have hrl:(b.drop a.toNat).length=b.length-a.toNat:=List.length_drop
  have hol:=Q3F out
  have hoL:out.length≤1000000000:=by omega
  obtain⟨u,hu⟩:=exq (uAt big b a.toNat)
  obtain⟨v,hv⟩:=exq (uAt big b (a+2).toNat)
  have hcs:QmF big b I (out,a)=Q9I u v I:=by rw[hu,hv];rfl
  rw[hcs]
  clear hcs
  have hn9:n≤1000000000:=by have:=hn.eq;omega
  match hr:b.drop a.toNat with
  | [] =>
   rw[hr,List.length_nil] at hrl
   have hna:a=n:=by have:=hn.eq;omega
   have hfin:out=Q1o big 0 b:=by rw[←hJ2,hr,Q1o,dif_pos rfl,List.append_nil]
   have hlt:¬ a<n:=by omega
   clear hbl hrl hu hv hJ2 hJ3 hna
   generalize hp:std=p,hbs:Q2 b=bs,ho:QW out=o
   generalize hT:Q5 p tys (Q9I u v I) _ _ _ _=T
   cbv at hT
   subst hT
   simp only[Tree.ok,Q1,S0]
   subst hp hbs ho
   have hxn:(((Q2 b).length:Nat):Int)=n:=by have:=hn.eq;have:=Q10 b;omega
   repeat' first
    |(with_reducible refine And.intro (fun hx=>absurd hx (by first|(try simp[std,S1,hxn,hlt])<;>omega|omega)) (fun _=>?_))
    |(with_reducible refine And.intro (fun _=>?_) (fun hx=>absurd hx (by first|(try simp[std,S1,hxn,hlt])<;>omega|omega)))
    |(with_reducible refine And.intro (by first|(try simp[std,S1,hxn,hlt])<;>omega|omega) ?_)
    |(with_reducible refine And.intro ?_ ?_)
    |(with_reducible intro hb)
   rw[if_pos trivial]
   generalize hp:std=p,hbs:Q2 b=bs,ho:QW out=o
   generalize hT:Q5 p tys _ _ _ _ _=T
   cbv at hT
   subst hT
   simp only[Tree.ok,Q1,S0]
   subst hp hbs ho
   exact .pure rfl (.inl (by rw[hfin]))
  | [x] =>
   rw[hr,List.length_singleton] at hrl
   have hna:a+1=n:=by have:=hn.eq;omega
   have hlt:a<n:=by omega
   have hfin:Q1o big 0 b=out++[⟨-1,a,1⟩]:=by
    rw[←hJ2,hr,Q1o,dif_neg (by simp),show ([x].drop (Q1c big [x]).2.toNat)=[] from rfl,Q1o,dif_pos rfl];rfl
   rw[hfin,Q1B,Q1C]
   have hoL1:out.length+1≤1000000000:=by omega
   clear hbl hrl hu hv hJ2 hJ3 hfin
   generalize hp:std=p,hbs:Q2 b=bs,ho:QW out=o
   generalize hT:Q5 p tys (Q9I u v I) _ _ _ _=T
   cbv at hT
   subst hT
   simp only[Tree.ok,Q1,S0]
   subst hp hbs ho
   have hxn:(((Q2 b).length:Nat):Int)=n:=by have:=hn.eq;have:=Q10 b;omega
   repeat' first
    |(with_reducible refine And.intro (fun hx=>absurd hx (by first|(try simp[std,S1,hxn,hlt,hna,hol,hJ0])<;>omega|omega)) (fun _=>?_))
    |(with_reducible refine And.intro (fun _=>?_) (fun hx=>absurd hx (by first|(try simp[std,S1,hxn,hlt,hna,hol,hJ0])<;>omega|omega)))
    |(with_reducible refine And.intro (by first|(try simp[std,S1,hxn,hlt,hna,hol,hJ0])<;>omega|omega) ?_)
    |(with_reducible refine And.intro ?_ ?_)
    |(with_reducible intro hb)
   all_goals
    generalize hp:std=p,hbs:Q2 b=bs,ho:QW out=o
    generalize hT:Q4N p tys _ _ _ _=T
    cbv at hT
    subst hT
    simp only[Tree.ok,Q1,S0]
    subst hp hbs ho
    exact .pure rfl (.inl rfl)
  |x::y::r =>
   have hst:=Qgn hJ0 x y r hr hu hv
   have hU:BCall prog 83 [.slc 1 (std.cut (Q2 b) a (a+2)),.val (.bool big)] [] (.val (.int .i64 u)) []:=by
    rw[Qk5 hJ0 hr,hu,Qbs hr];exact QeZ big x y
   have hU2:a+3<b.length→BCall prog 83 [.slc 1 (std.cut (Q2 b) (a+2) (a+4)),.val (.bool big)] [] (.val (.int .i64 v)) []:=fun hL=>by
    have hl:(b.length:Int)=a+2+r.length:=by
     have:=congrArg List.length hr
     rw[List.length_drop] at this
     simp only[List.length_cons] at this
     omega
    match r,hr,hl with
    | [],hr,hl=>simp only[List.length_nil] at hl;omega
    | [z],hr,hl=>simp only[List.length_singleton] at hl;omega
    |x2::y2::r',hr,hl =>
     have hd:b.drop (a+2).toNat=x2::y2::r':=by
      rw[show (a+2).toNat=a.toNat+2 by omega,←List.drop_drop,hr];rfl
     rw[QiN hJ0 hr,hv,Qbs hd];exact QeZ big x2 y2
   have hur:0≤u∧u<65536:=by rw[hu];exact Q2O _ _ _
   have hvr:0≤v∧v<65536:=by rw[hv];exact Q2O _ _ _
   rw[hr] at hJ2 hrl
   simp only[List.length_cons] at hrl
   have hlt:a<n:=by have:=hn.eq;omega
   have hn1:¬ a+1=n:=by have:=hn.eq;omega
   have hn2:a+2≤n:=by have:=hn.eq;omega
   have wu:IntKind.wrap .i32 u=u:=Q51 u (by omega) (by omega)
   have next:∀ R N:Int,Q1c big (x::y::r)=(R,N)→0≤a+N∧(a+N).toNat≤b.length∧out++[⟨R,a,N⟩]++Q1o big (a+N) (b.drop (a+N).toNat)=Q1o big 0 b∧(out++[(⟨R,a,N⟩:Itm)]).length≤(a+N).toNat∧b.length-(a+N).toNat<b.length-a.toNat:=fun R N h9=>Q2B hJ0 hJ1 (by rw[hr];exact hJ2) hJ3 hr (by simp) h9
   have hoL1:out.length+1≤1000000000:=by omega
   clear hu hv hJ2 hrl hbl
   by_cases s1:55296≤u∧u<57344
   ·have f1:I u 55296 57343=true:=by rw[hIv];simp;omega
    by_cases s2:u<56320
    ·have f2:I u 55296 56319=true:=by rw[hIv];simp;omega
     by_cases hL:a+3<n
     ·have hLb:a+3<b.length:=by have:=hn.eq;omega
      have hU2:=hU2 hLb
      by_cases s3:56320≤v∧v<57344
      ·have f3:I v 56320 57343=true:=by rw[hIv];simp;omega
       have hq:Q1c big (x::y::r)=(65536+(u-55296) * 1024+(v-56320),4):=by
        rw[hst,if_pos ⟨⟨s1.1,s2⟩,hLb,s3⟩]
       have hnx:=next _ _ hq
       have hn4:a+4≤n:=by omega
       obtain⟨P,hP⟩:=exq (65536+(u-55296) * 1024+(v-56320))
       have eP:65536+1024 * (u-55296)+v-56320=P:=by omega
       have wP:IntKind.wrap .i32 (65536+1024 * (u-55296)+v-56320)=P:=by rw[eP];exact Q51 P (by omega) (by omega)
       rw[←hP] at hnx
       clear next hst hq hP
       generalize hp:std=p,hbs:Q2 b=bs,ho:QW out=o
       generalize hT:Q5 p tys (Q9I u v I) _ _ _ _=T
       cbv at hT
       subst hT
       simp only[Tree.ok,Q1,S0]
       subst hp hbs ho
       have hxn:(((Q2 b).length:Nat):Int)=n:=by have:=hn.eq;have:=Q10 b;omega
       repeat' first
        |(with_reducible refine And.intro (fun hx=>absurd hx (by first|(try simp[std,S1,hxn,hlt,hn1,hn2,hol,hJ0,wu,f1,f2,f3,hL,hn4,wP])<;>omega|omega)) (fun _=>?_))
        |(with_reducible refine And.intro (fun _=>?_) (fun hx=>absurd hx (by first|(try simp[std,S1,hxn,hlt,hn1,hn2,hol,hJ0,wu,f1,f2,f3,hL,hn4,wP])<;>omega|omega)))
        |(with_reducible refine And.intro (by first|(try simp[std,S1,hxn,hlt,hn1,hn2,hol,hJ0,wu,f1,f2,f3,hL,hn4,wP])<;>omega|omega) ?_)
        |(with_reducible refine And.intro ?_ ?_)
        |(with_reducible intro hb)
       all_goals first
        |exact hU
        |exact hU2
        |exact cI _ _ _
        |(refine⟨(out++[⟨P,a,4⟩],a+4),⟨hnx.1,hnx.2.1,hnx.2.2.1,hnx.2.2.2.1⟩,hnx.2.2.2.2,[some 0],_,rfl,?_⟩;simp[Qe,lk,std,AV.cells,intOf,Q1B,Q1C,wu,f1,f2,f3,hL,hn4,wP])
      ·have f3:I v 56320 57343=false:=by rw[hIv];simp;omega
       have hq:Q1c big (x::y::r)=(-1,2):=by
        rw[hst,if_neg (fun e=>s3 e.2.2),if_pos s1]
       have hnx:=next _ _ hq
       have hn4:a+4≤n:=by omega
       clear next hst hq
       generalize hp:std=p,hbs:Q2 b=bs,ho:QW out=o
       generalize hT:Q5 p tys (Q9I u v I) _ _ _ _=T
       cbv at hT
       subst hT
       simp only[Tree.ok,Q1,S0]
       subst hp hbs ho
       have hxn:(((Q2 b).length:Nat):Int)=n:=by have:=hn.eq;have:=Q10 b;omega
       repeat' first
        |(with_reducible refine And.intro (fun hx=>absurd hx (by first|(try simp[std,S1,hxn,hlt,hn1,hn2,hol,hJ0,wu,f1,f2,f3,hL,hn4])<;>omega|omega)) (fun _=>?_))
        |(with_reducible refine And.intro (fun _=>?_) (fun hx=>absurd hx (by first|(try simp[std,S1,hxn,hlt,hn1,hn2,hol,hJ0,wu,f1,f2,f3,hL,hn4])<;>omega|omega)))
        |(with_reducible refine And.intro (by first|(try simp[std,S1,hxn,hlt,hn1,hn2,hol,hJ0,wu,f1,f2,f3,hL,hn4])<;>omega|omega) ?_)
        |(with_reducible refine And.intro ?_ ?_)
        |(with_reducible intro hb)
       all_goals first
        |exact hU
        |exact hU2
        |exact cI _ _ _
        |(refine⟨(out++[⟨-1,a,2⟩],a+2),⟨hnx.1,hnx.2.1,hnx.2.2.1,hnx.2.2.2.1⟩,hnx.2.2.2.2,[some 0],_,rfl,?_⟩;simp[Qe,lk,std,AV.cells,intOf,Q1B,Q1C,wu,f1,f2,f3,hL,hn4])
     ·have hLb:¬ a+3<b.length:=by have:=hn.eq;omega
      have hq:Q1c big (x::y::r)=(-1,2):=by
       rw[hst,if_neg (fun e=>hLb e.2.1),if_pos s1]
      have hnx:=next _ _ hq
      clear next hst hq
      generalize hp:std=p,hbs:Q2 b=bs,ho:QW out=o
      generalize hT:Q5 p tys (Q9I u v I) _ _ _ _=T
      cbv at hT
      subst hT
      simp only[Tree.ok,Q1,S0]
      subst hp hbs ho
      have hxn:(((Q2 b).length:Nat):Int)=n:=by have:=hn.eq;have:=Q10 b;omega
      repeat' first
       |(with_reducible refine And.intro (fun hx=>absurd hx (by first|(try simp[std,S1,hxn,hlt,hn1,hn2,hol,hJ0,wu,f1,f2,hL])<;>omega|omega)) (fun _=>?_))
       |(with_reducible refine And.intro (fun _=>?_) (fun hx=>absurd hx (by first|(try simp[std,S1,hxn,hlt,hn1,hn2,hol,hJ0,wu,f1,f2,hL])<;>omega|omega)))
       |(with_reducible refine And.intro (by first|(try simp[std,S1,hxn,hlt,hn1,hn2,hol,hJ0,wu,f1,f2,hL])<;>omega|omega) ?_)
       |(with_reducible refine And.intro ?_ ?_)
       |(with_reducible intro hb)
      all_goals first
       |exact hU
       |exact hU2
       |exact cI _ _ _
       |(refine⟨(out++[⟨-1,a,2⟩],a+2),⟨hnx.1,hnx.2.1,hnx.2.2.1,hnx.2.2.2.1⟩,hnx.2.2.2.2,[some 0],_,rfl,?_⟩;simp[Qe,lk,std,AV.cells,intOf,Q1B,Q1C,wu,f1,f2,hL])
    ·have f2:I u 55296 56319=false:=by rw[hIv];simp;omega
     have hq:Q1c big (x::y::r)=(-1,2):=by
      rw[hst,if_neg (fun e=>s2 e.1.2),if_pos s1]
     have hnx:=next _ _ hq
     clear next hst hq
     generalize hp:std=p,hbs:Q2 b=bs,ho:QW out=o
     generalize hT:Q5 p tys (Q9I u v I) _ _ _ _=T
     cbv at hT
     subst hT
     simp only[Tree.ok,Q1,S0]
     subst hp hbs ho
     have hxn:(((Q2 b).length:Nat):Int)=n:=by have:=hn.eq;have:=Q10 b;omega
     repeat' first
      |(with_reducible refine And.intro (fun hx=>absurd hx (by first|(try simp[std,S1,hxn,hlt,hn1,hn2,hol,hJ0,wu,f1,f2])<;>omega|omega)) (fun _=>?_))
      |(with_reducible refine And.intro (fun _=>?_) (fun hx=>absurd hx (by first|(try simp[std,S1,hxn,hlt,hn1,hn2,hol,hJ0,wu,f1,f2])<;>omega|omega)))
      |(with_reducible refine And.intro (by first|(try simp[std,S1,hxn,hlt,hn1,hn2,hol,hJ0,wu,f1,f2])<;>omega|omega) ?_)
      |(with_reducible refine And.intro ?_ ?_)
      |(with_reducible intro hb)
     all_goals first
      |exact hU
      |exact hU2
      |exact cI _ _ _
      |(refine⟨(out++[⟨-1,a,2⟩],a+2),⟨hnx.1,hnx.2.1,hnx.2.2.1,hnx.2.2.2.1⟩,hnx.2.2.2.2,[some 0],_,rfl,?_⟩;simp[Qe,lk,std,AV.cells,intOf,Q1B,Q1C,wu,f1,f2])
   ·have f1:I u 55296 57343=false:=by rw[hIv];simp;omega
    have f2:I u 55296 56319=false:=by rw[hIv];simp;omega
    have hq:Q1c big (x::y::r)=(u,2):=by
     rw[hst,if_neg (fun e=>s1 ⟨e.1.1,by omega⟩),if_neg s1]
    have hnx:=next _ _ hq
    clear next hst hq
    generalize hp:std=p,hbs:Q2 b=bs,ho:QW out=o
    generalize hT:Q5 p tys (Q9I u v I) _ _ _ _=T
    cbv at hT
    subst hT
    simp only[Tree.ok,Q1,S0]
    subst hp hbs ho
    have hxn:(((Q2 b).length:Nat):Int)=n:=by have:=hn.eq;have:=Q10 b;omega
    repeat' first
     |(with_reducible refine And.intro (fun hx=>absurd hx (by first|(try simp[std,S1,hxn,hlt,hn1,hn2,hol,hJ0,wu,f1,f2])<;>omega|omega)) (fun _=>?_))
     |(with_reducible refine And.intro (fun _=>?_) (fun hx=>absurd hx (by first|(try simp[std,S1,hxn,hlt,hn1,hn2,hol,hJ0,wu,f1,f2])<;>omega|omega)))
     |(with_reducible refine And.intro (by first|(try simp[std,S1,hxn,hlt,hn1,hn2,hol,hJ0,wu,f1,f2])<;>omega|omega) ?_)
     |(with_reducible refine And.intro ?_ ?_)
     |(with_reducible intro hb)
    all_goals first
     |exact hU
     |exact hU2
     |exact cI _ _ _
     |(refine⟨(out++[⟨u,a,2⟩],a+2),⟨hnx.1,hnx.2.1,hnx.2.2.1,hnx.2.2.2.1⟩,hnx.2.2.2.2,[some 0],_,rfl,?_⟩;simp[Qe,lk,std,AV.cells,intOf,Q1B,Q1C,wu,f1,f2])
end Go.Proofs.YthbjpdijafccjaaGreat
