/-
  Parts of the proof, joined: Ua. Conditions: as each theorem says.
-/
import Derived.Test.YtibemhahkicbpaaGreatQI21
import Derived.Test.YtibemhahkicbpaaGreatQI05
set_option maxRecDepth 100000
set_option maxHeartbeats 8000000
namespace Go.Proofs.YtibemhahkicbpaaGreat
open Go.RowKit Go.Lib Tryz
theorem QiK (l:List Node)(c:Cur):BCall prog 64 [.agg (c.el (Q0 l))] [] (.val (.int .i64 c.n)) []:=by
 rw[Cur.el]
 obtain⟨cn,hcn⟩:=exq c.n
 obtain⟨cf,hcf⟩:=exq c.f
 obtain⟨ck,hck⟩:=exq c.k
 rw[←hcn,←hcf,←hck]
 refine fnN (cs:=cs0) func64 rfl (by kernel_rfl) ?_
 intro w0 g0
 generalize hp:std=p
 generalize hU:upO (Q0 l) c=U
 generalize hN:Q0 l=N
 generalize hT:Q8 p tys (cs0) _ _ _ _=T
 cbv at hT
 subst hT
 simp only[Tree.ok,Q4,S0]
 subst hp hU hN
 exact .pure rfl (.inl rfl)
def QgW:Int→List Tok→Int→Prop
 |k,[],n=>k=n
 |k,t::ts,n=>t.from_=k∧k<t.to∧QgW t.to ts n
theorem Qbf:∀ (ts:List ((Nat×Nat×Bool)×Nat)) (k n:Nat),QdF k ts n→QgW k (ts.map QkP) n
 | [],k,n,h=>by
  have h:k=n:=h
  show (k:Int)=n
  omega
 |t::ts,k,n,h=>by
  obtain⟨h1,h2,h3⟩:=(show t.2=k∧k<t.1.2.1∧QdF t.1.2.1 ts n from h)
  refine⟨?_,?_,Qbf ts _ n h3⟩
  ·show ((t.2:Nat):Int)=k
   omega
  ·show (k:Int)<((t.1.2.1:Nat):Int)
   omega
theorem Qgg (l:List Int):QgW 0 (Q14 l) l.length:=Qbf _ 0 _ (Qdr l l.length 0 (by omega) (Nat.zero_le _))
end Go.Proofs.YtibemhahkicbpaaGreat
