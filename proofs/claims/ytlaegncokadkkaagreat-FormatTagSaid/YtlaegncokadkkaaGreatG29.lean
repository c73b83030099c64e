/- Lemmas, conditions told -/
import Derived.Test.YtlaegncokadkkaaGreatG20
set_option maxRecDepth 99999
set_option maxHeartbeats 0
set_option linter.unusedSimpArgs false
set_option linter.unusedVariables false
namespace Go.Proofs.YtlaegncokadkkaaGreat
open Go.RowKit Go.Lib
section
open Tryz
def Qmq:List BE:=[⟨46,[.slc 1 (Q5 Qcd)],[],.agg [.val (.int .i64 0),.val (.int .i64 0),Q4u,Q4o,.ref [Q4s],.val (.int .i64 4),.slc 3 []],[]⟩,⟨44,[.slc 1 (Q5 Qcd),.val (.int .i64 0)],[],Qos,[]⟩,⟨36,[.slc 1 (Q0 [32]),.val (.int .i64 (2:Nat))],[],.slc 1 (Q0 (List.replicate 2 32)),[]⟩,⟨36,[.slc 1 (Q0 [32]),.val (.int .i64 (0:Nat))],[],.slc 1 (Q0 (List.replicate 0 32)),[]⟩]
theorem QmS:Q4R Qmq:=by
 unfold Qmq;exact⟨⟨rfl,QdZ⟩,⟨rfl,Qjp⟩,⟨rfl,Q9l 32 2 (by decide)⟩,⟨rfl,Q9l 32 0 (by decide)⟩,trivial⟩
theorem Qh9:BCall prog 8 [] [] (.val (.bool true)) [] :=
 (Q2k (lf:=100) Q2c (Q2N QmS) (ask:=Q61) Q1K 60 _ _ _ _ _ (by kernel_rfl)).2
