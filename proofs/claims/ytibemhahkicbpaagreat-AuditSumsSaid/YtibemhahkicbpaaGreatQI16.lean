/-
  Parts of the proof, joined: TgP. Conditions: as each theorem says.
-/
import Derived.Test.YtibemhahkicbpaaGreatQI14
import Derived.Test.YtibemhahkicbpaaGreatQI10
set_option maxRecDepth 100000
set_option maxHeartbeats 8000000
namespace Go.Proofs.YtibemhahkicbpaaGreat
open Go.RowKit Go.Lib Tryz
def Qr (l:List Int)(first:Bool):Int×Int :=
 if first=true∧Qk l 0 [60,47]=true then (1,2)
 else if first=true∧l.getD 0 0=60 then (1,1)
 else if 0<(Q4I Q3u l 0:Int) then (3,(Q4I Q3u l 0:Int))
 else if 0<(Q10 l 0:Int) then (2,(Q10 l 0:Int))
 else if l.getD 0 0=61 then (4,1)
 else if 0<Q4x l then (5,Q4x l)
 else if ((l.length:Int)=2∧Qk l 0 [47,62]=true)∨((l.length:Int)=1∧l.getD 0 0=62) then (6,(l.length:Int))
 else (7,1)
def csP (run lead val:Int)(st:ByteArray→Bool):Nat→List AV→List Ob→Option (AV×List Ob):=fun f args _=>match f,args with
 |176,_=>some (.val (.int .i64 run),[])
 |183,_=>some (.val (.int .i64 lead),[])
 |184,_=>some (.val (.int .i64 val),[])
 |185,[_,_,.val (.string s)]=>some (.val (.bool (st s)),[])
 |_,_=>none
theorem QiF (l:List Int)(hl:l≠[])(hmax:l.length≤1000000000)(first:Bool):BCall prog 144 [.slc 1 (Q1 l),.val (.bool first)] [] (.tup [.val (.int .i64 (Qr l first).1),.val (.int .i64 (Qr l first).2)]) []:=by
 obtain⟨run,hrun⟩:=exq ((Q4I Q3u l 0:Int):Int)
 obtain⟨lead,hlead⟩:=exq ((Q10 l 0:Int):Int)
 obtain⟨val,hval⟩:=exq (Q4x l)
 obtain⟨st,hst⟩:=exq (fun s=>Qk l 0 s.data.toList:ByteArray→Bool)
 have b1:BCall prog 176 [.slc 1 (Q1 l),.val (.int .i64 0),.val (.func (.func 182) #[] #[])] [] (.val (.int .i64 run)) []:=by
  rw[hrun];exact Qlk l 0 Q3u 182 Qh1 (fun w=>Qgw w)
 have b2:BCall prog 183 [.slc 1 (Q1 l),.val (.int .i64 0)] [] (.val (.int .i64 lead)) []:=by
  rw[hlead];exact QjW l 0 (by omega) (by omega)
 have b3:BCall prog 184 [.slc 1 (Q1 l)] [] (.val (.int .i64 val)) []:=by
  rw[hval];exact QiD l hl hmax
 have b4:∀ s:ByteArray,s.size≤10→BCall prog 185 [.slc 1 (Q1 l),.val (.int .i64 0),.val (.string s)] [] (.val (.bool (st s))) []:=fun s hs=>by
  rw[hst];exact Qht l hmax 0 (by omega) (by omega) s (by omega)
 obtain⟨n,hn⟩:=QX l
 have e1:st ⟨#[60,47]⟩=Qk l 0 [60,47]:=by rw[hst]
 have e2:st ⟨#[47,62]⟩=Qk l 0 [47,62]:=by rw[hst]
 have hP:Qr l first=((if first=true∧st ⟨#[60,47]⟩=true then (1,2)
   else if first=true∧l.getD 0 0=60 then (1,1)
   else if 0<run then (3,run)
   else if 0<lead then (2,lead)
   else if l.getD 0 0=61 then (4,1)
   else if 0<val then (5,val)
   else if (n=2∧st ⟨#[47,62]⟩=true)∨(n=1∧l.getD 0 0=62) then (6,n)
   else (7,1)):Int×Int):=by
  rw[e1,e2,hrun,hlead,hval,hn.eq];rfl
 rw[hP]
 clear hP e1 e2 hst hval hlead hrun
 have hpos:0<l.length:=List.length_pos_iff.2 hl
 have a0:=Q3k (l:=l) (i:=0) (Int.le_refl 0) (by omega)
 obtain⟨r0,hr0⟩:=exq (l.getD 0 0)
 have a0:(Q1 l)[0]?.getD .dead=.val (.int .i32 r0):=by rw[hr0,List.getD_eq_getElem?_getD];exact a0
 have a1:∀ h:0<(Q1 l).length,(Q1 l)[0]'h=.val (.int .i32 r0):=fun h=>by rw[List.getElem?_eq_getElem h] at a0;exact a0
 rw[←hr0]
 clear hr0
 cases first
 all_goals
  refine fnN (cs:=csP run lead val st) func144 rfl (by kernel_rfl) ?_
  intro w0 g0
  generalize hp:std=p,hrs:Q1 l=rs
  generalize hT:Q8 p tys (csP run lead val st) _ _ _ _=T
  cbv at hT
  subst hT
  simp only[Tree.ok,Q4,S0]
  subst hp hrs
  have en:=hn.eq
  have hlen:=Q13 l
  have hpos':0<(Q1 l).length:=by omega
  have hlen':(((Q1 l).length:Nat):Int)=n:=by omega
  have b5:=b4 ⟨#[60,47]⟩ (by decide)
  have b6:=b4 ⟨#[47,62]⟩ (by decide)
  repeat' first
   |(with_reducible refine And.intro (fun hx=>absurd hx (by first|(try simp[std,S1,a0,a1,hlen',hpos',b1,b2,b3,b5,b6])<;>omega|omega)) (fun _=>?_))
   |(with_reducible refine And.intro (fun _=>?_) (fun hx=>absurd hx (by first|(try simp[std,S1,a0,a1,hlen',hpos',b1,b2,b3,b5,b6])<;>omega|omega)))
   |(with_reducible refine And.intro (by first|(try simp[std,S1,a0,a1,hlen',hpos',b1,b2,b3,b5,b6])<;>omega|omega) ?_)
   |(with_reducible refine And.intro ?_ ?_)
   |(with_reducible intro hb;try simp[std,S1,a0,a1,hlen',hpos',b1,b2,b3,b5,b6] at hb)
  all_goals
   first
    |refine .pure rfl ⟨.inl ?_,.inl ?_,trivial⟩
     all_goals
      try simp only[std,hlen']
      clear en hlen hlen' hpos' hpos hn b1 b2 b3 b4 b5 b6
     all_goals first
      |(simp[*];done)
      |((repeat' split)<;>first|rfl|omega|(simp_all;done)|(simp_all;omega))
    |skip
 all_goals trace_state
end Go.Proofs.YtibemhahkicbpaaGreat
