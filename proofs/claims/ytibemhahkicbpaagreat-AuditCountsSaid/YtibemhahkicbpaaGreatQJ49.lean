/- Lemmas; conditions told. -/
import Derived.Test.YtibemhahkicbpaaGreatQJ33
import Derived.Test.YtibemhahkicbpaaGreatQJ48
set_option maxRecDepth 99999
set_option maxHeartbeats 0
set_option linter.unusedSimpArgs false
set_option linter.unusedVariables false
namespace Go.Proofs.YtibemhahkicbpaaGreat
open Go.RowKit Go.Lib
section
open Tryz
theorem QiQ(b:List UInt8)(hl:b.length<=400):BCall prog 33 [.slc 1 (Q2 b)] [] (.agg (QkW b).cs) []:=by
 obtain⟨h1,h2,h3,h4,h5⟩:=Q3N b;have hu:=QgK b;have cD:=Qc6 b (by omega) (by omega) (fun x hx=>by have:=h5 x hx;omega)
 have cP:=Qg2 b (by omega)
 have qM:(Qb b).r.length<=400:=by omega
 have hev:(Q1b b).ev.length<=9000000:=by
  have hO:=Q8f b (by omega)
  have h1:=QlU hO.ar.wf ((Qu b).n.length+1) (Qu b).n.length true (by omega) (QcT _) (by omega)
  have h2:=hO.c;have h3:=congrArg List.length (Q8S b (by omega)).2
  rw[List.length_map]at h3;omega
 have kA:=(Q8S b (by omega)).1
 obtain⟨nb,q6⟩:=QE b;obtain⟨n,hn⟩:=QE (Qb b).r;have gE:=QaQ (Qb b).r;refine Qju b hl (Qz (Q1b b).op) (Qb b).kind (Qb b).bom (Q9 (Qb b).off) (Qb b).r (Q1r (Qb b).r) (Q1b b).ev (Q1b b).wr nb n q6 hn (fun x hx=>(hu x hx).1) qM (QkW b) (Q6p _) (by omega) hev (fun x hx=>?_) ?_ ?_ cP cD (Qnx _ (by omega)) (Qcl _ (by omega) hu) (fun f u a1 a2 a3=>Qd0 _ (by omega) hu f u a1 a2 a3)
 ·rw[kA]at hx
  have:=(Qdr b).d x hx
  exact⟨this.2.2.2.1,this.2.2.2.2⟩
 ·rw[kA];exact QdG b (by omega)
 ·show QkW b=_
  rw[q6.eq,hn.eq];rfl
def QpH(B:List AV)(r:Rp):Nat->List AV->List Ob->Option (AV×List Ob):=fun f args _=>match f,args with
 |11,[.slc 1 _]=>some (.slc 1 B,[])
 |31,[.slc 1 _]=>some (.agg r.cs,[])
 |33,[.slc 1 _]=>some (.agg r.cs,[])
 |32,[.agg c]=>some (.agg c,[])
 |34,[]=>some (.val (.bool true),[])
 |_,_=>none
theorem AuditCounts_b(b0:List UInt8):BCall prog 6 [.slc 1 (Q2 b0)] [] (.val (.bool true)) []:=by
 have cS:=QnB b0;have cH:=QgB (b0.take 400) (by rw[List.length_take];omega)
 have cR:=QiQ (b0.take 400) (by rw[List.length_take];omega)
 rw[<-Qce (b0.take 400) (by rw[List.length_take];omega)]at cR
 have cA:=QiM;generalize Q7H (b0.take 400)=r at cH cR;have cO:=Qoi r;unfold Rp.cs at cH cR cO;refine fnN (QpH (Q2 (b0.take 400)) r) func6 rfl fun _ _=>?_
 with_reducible refine cv2 (Q2 (b0.take 400)) (Q2 b0) ?_
 refine⟨cS,cH,cR,cO,QpI,fun _=>⟨cA,.pure rfl (.inl rfl)⟩,fun h=>?_⟩
 exfalso;simp[std]at h
