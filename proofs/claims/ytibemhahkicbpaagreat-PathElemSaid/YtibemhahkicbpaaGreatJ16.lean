/- Lemmas, conditions told -/
import Derived.Test.YtibemhahkicbpaaGreatJ12
import Derived.Test.YtibemhahkicbpaaGreatJ13
set_option maxRecDepth 99999
set_option maxHeartbeats 0
set_option linter.unusedSimpArgs false
set_option linter.unusedVariables false
namespace Go.Proofs.YtibemhahkicbpaaGreat
open Go.RowKit Go.Lib
section
open Tryz
def Qt(l:List Int)(first:Bool):Int×Int :=
 if first=true/\Q6 l 0 [60,47]=true then(1,2)
 else if first=true/\l.getD 0 0=60 then(1,1)
 else if 0<(Q2X Qd l 0:Int)then(3,(Q2X Qd l 0:Int))
 else if 0<(Qj l 0:Int)then(2,(Qj l 0:Int))
 else if l.getD 0 0=61 then(4,1)
 else if 0<Q1E l then(5,Q1E l)
 else if((l.length:Int)=2/\Q6 l 0 [47,62]=true)\/((l.length:Int)=1/\l.getD 0 0=62)then(6,(l.length:Int))
 else(7,1)
def csP(run lead val:Int)(st:ByteArray->Bool):Nat->List AV->List Ob->Option (AV×List Ob):=fun f args _=>match f,args with
 |176,_=>some (.val (.int .i64 run),[])
 |183,_=>some (.val (.int .i64 lead),[])
 |184,_=>some (.val (.int .i64 val),[])
 |185,[_,_,.val (.string s)]=>some (.val (.bool (st s)),[])
 |_,_=>none
theorem Qn3(l:List Int)(hl:l≠[])(xj:l.length<=1000000000)(first:Bool):BCall prog 144 [.slc 1 (Q0 l),.val (.bool first)] [] (.tup [.val (.int .i64 (Qt l first).1),.val (.int .i64 (Qt l first).2)]) []:=by
 obtain⟨run,qa⟩:=exq ((Q2X Qd l 0:Int):Int);obtain⟨lead,jG⟩:=exq ((Qj l 0:Int):Int);obtain⟨val,hval⟩:=exq (Q1E l);obtain⟨st,jH⟩:=exq (fun s=>Q6 l 0 s.data.toList:ByteArray->Bool)
 have b1:BCall prog 176 [.slc 1 (Q0 l),.val (.int .i64 0),.val (.func (.func 182) #[] #[])] [] (.val (.int .i64 run)) []:=by
  rw[qa];exact Qpm l 0 Qd 182 Qlk (fun w=>Qke w)
 have b2:BCall prog 183 [.slc 1 (Q0 l),.val (.int .i64 0)] [] (.val (.int .i64 lead)) []:=by
  rw[jG];exact QoO l 0 (by omega) (by omega)
 have b3:BCall prog 184 [.slc 1 (Q0 l)] [] (.val (.int .i64 val)) []:=by
  rw[hval];exact Qns l hl xj
 have b4:∀s:ByteArray,s.size<=10->BCall prog 185 [.slc 1 (Q0 l),.val (.int .i64 0),.val (.string s)] [] (.val (.bool (st s))) []:=fun s hs=>by
  rw[jH];exact Qld l xj 0 (by omega) (by omega) s (by omega)
 obtain⟨n,hn⟩:=QE l;have e1:st ⟨#[60,47]⟩=Q6 l 0 [60,47]:=by rw[jH]
 have e2:st ⟨#[47,62]⟩=Q6 l 0 [47,62]:=by rw[jH]
 have hP:Qt l first=((if first=true/\st ⟨#[60,47]⟩=true then(1,2)
   else if first=true/\l.getD 0 0=60 then(1,1)
   else if 0<run then(3,run)
   else if 0<lead then(2,lead)
   else if l.getD 0 0=61 then(4,1)
   else if 0<val then(5,val)
   else if(n=2/\st ⟨#[47,62]⟩=true)\/(n=1/\l.getD 0 0=62)then(6,n)
   else(7,1)):Int×Int):=by
  rw[e1,e2,qa,jG,hval,hn.eq];rfl
 rw[hP];clear hP e1 e2 jH hval jG qa;have jf:0<l.length:=List.length_pos_iff.2 hl;have a0:=QJ (l:=l) (i:=0) (Int.le_refl 0) (by omega)
 obtain⟨r0,vl⟩:=exq (l.getD 0 0);have a0:(Q0 l)[0]?.getD .dead=.val (.int .i32 r0):=by rw[vl,List.getD_eq_getElem?_getD];exact a0
 have a1:∀h:0<(Q0 l).length,(Q0 l)[0]'h=.val (.int .i32 r0):=fun h=>by rw[List.getElem?_eq_getElem h]at a0;exact a0
 rw[<-vl];clear vl;cases first
 all_goals
  refine fnN (csP run lead val st) func144 rfl fun _ _=>?_
  with_reducible refine cv1 (Q0 l) ?_
  have en:=hn.eq;have jE:=Qx l;have gW:0<(Q0 l).length:=by omega
  have q7:(((Q0 l).length:Nat):Int)=n:=by omega
  have b5:=b4 ⟨#[60,47]⟩ (by decide)
  have b6:=b4 ⟨#[47,62]⟩ (by decide)
  with_reducible repeat' first|refine aU (zA a0 <| zA a1 <| zA q7 <| zA gW <| zA b1 <| zA b2 <| zA b3 <| zA b5 b6) ?_|refine zA ?_ ?_|(intro hb;try simp[std,S1,a0,a1,q7,gW,b1,b2,b3,b5,b6]at hb)
  all_goals
   first
    |refine .pure rfl ⟨.inl ?_,.inl ?_,trivial⟩
     all_goals
      try simp only[std,q7]
      clear en jE q7 gW jf hn b1 b2 b3 b4 b5 b6
     all_goals first
      |(simp[*];done)
      |((repeat' split)<;>first|rfl|omega|(simp_all;done)|(simp_all;omega))
    |skip
 all_goals trace_state
