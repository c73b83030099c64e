/- Lemmas; conditions told. -/
import Derived.Test.YtibemhahkicbpaaGreatQJ22
set_option maxRecDepth 99999
set_option maxHeartbeats 0
set_option linter.unusedSimpArgs false
set_option linter.unusedVariables false
namespace Go.Proofs.YtibemhahkicbpaaGreat
open Go.RowKit Go.Lib
section
open Tryz
theorem QmQ(l:List Node)(c:Cur):BCall prog 64 [.agg (c.el (Q3 l))] [] (.val (.int .i64 c.n)) []:=by
 rw[Cur.el];obtain⟨cn,gi⟩:=exq c.n;obtain⟨cf,ci⟩:=exq c.f;obtain⟨ck,z7⟩:=exq c.k;rw[<-gi,<-ci,<-z7];refine fnN (cs0) func64 rfl fun _ _=>?_
 with_reducible refine cv2 (upO (Q3 l) c) (Q3 l) ?_
 exact .pure rfl (.inl rfl)
