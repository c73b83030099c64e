/-
  Parts of the proof, joined: Ud. Conditions: as each theorem says.
-/
import Derived.Test.YtibemhahkicbpaaGreatQH22
import Derived.Test.YtibemhahkicbpaaGreatQH21
import Derived.Test.YtibemhahkicbpaaGreatQH13
set_option maxRecDepth 100000
set_option maxHeartbeats 8000000
namespace Go.Proofs.YtibemhahkicbpaaGreat
open Go.RowKit Go.Lib Tryz
def Qj9 (B:List AV):Nat→List AV→List Ob→Option (AV×List Ob):=fun f args _=>match f,args with
 |11,[.slc 1 _]=>some (.slc 1 B,[])
 |35,[.slc 1 _]=>some (.val (.bool true),[])
 |34,[]=>some (.val (.bool true),[])
 |_,_=>none
theorem AuditHolds_b (b0:List UInt8):BCall prog 8 [.slc 1 (Q3 b0)] [] (.val (.bool true)) []:=by
 have cS:=QhQ b0
 have cH:=QhZ (b0.take 400) (by rw[List.length_take];omega)
 have cA:=Q8U
 refine fnN (cs:=Qj9 (Q3 (b0.take 400))) func8 rfl (by kernel_rfl) ?_
 intro w0 g0
 generalize hp:std=p,hB:Q3 (b0.take 400)=B,hB0:Q3 b0=B0
 generalize hT:Q8 p tys (Qj9 B) _ _ _ _=T
 cbv at hT
 subst hT
 simp only[Tree.ok,Q4,S0]
 subst hp hB hB0
 exact⟨cS,cH,cA,.pure rfl (.inl rfl)⟩
def Qj5 (t:ByteArray):Nat→List AV→List Ob→Option (AV×List Ob):=fun f args _=>match f,args with
 |32,[.agg c]=>some (.agg c,[])
 |36,[.agg _]=>some (.val (.string t),[])
 |37,[.agg _]=>some (.val (.string t),[])
 |34,[]=>some (.val (.bool true),[])
 |_,_=>none
def atO:OT:=.then [0] (.fork (.then [1] (.fork (.of [2,3,4,5,6,7,8,9]) (.of [3,2,4,5,6,7,8,9]))) (.of [3,1,2,4,5,6,7,8,9]))
theorem AuditText_b (r:Rp)(ok:r.ok):BCall prog 9 [.agg r.cs] [] (.val (.bool true)) []:=by
 have cO:=Qij r
 have cT:=QgJ r ok
 have cR:=QhV r ok
 have cA:=Q8U
 generalize bsB (Qdw r)=t at cT cR
 unfold Rp.cs at cO cT cR ⊢
 refine fnO false (cs:=Qj5 t) (ord:=fun id=>match id with|1=> atO|_=>.nil) func9 rfl (by kernel_rfl) ?_
 intro w0 g0
 generalize hp:std=p
 generalize hT:Q8 p tys (Qj5 t) _ _ _ _=T
 cbv at hT
 subst hT
 simp only[Tree.ok,Q4,S0]
 subst hp
 have hE:=Qb3 t
 repeat' (with_reducible apply And.intro)
 all_goals first
  |exact cO
  |exact cT
  |exact cR
  |(intro h;exact⟨cA,.pure rfl (.inl rfl)⟩)
  |(intro h;exact absurd (hE.symm.trans h) (by decide))
theorem arg_rp (r:Rp)(w:World):ARel1 w (gl w) [] (.agg r.vs) (.agg r.cs):=by
 refine⟨r.vs,rfl,rfl,fun j y u hy hu=>?_⟩
 have e1:r.cs=(r.all.map (Value.int .i64)).map .val:=rfl
 have e2:r.vs.toList=r.all.map (Value.int .i64):=rfl
 rw[e2] at hy
 rw[e1,List.getElem?_map,hy] at hu
 obtain rfl:AV.val y=u:=by simpa using hu
 obtain⟨n,_,rfl⟩:=List.mem_map.1 (List.mem_of_getElem? hy)
 exact⟨PRel.val _ rfl,rfl⟩
theorem rp_of {W:World}{r:Reach}{base:Nat}{v:Value}(h:Value.okWide prog W r base 88 v):∃ r:Rp,r.ok∧v=.agg r.vs:=by
 simp only[Value.okWide,underlying88] at h
 obtain⟨cs,rfl,hsz,ts,hts,_,hc⟩:=h
 have e1:prog.cellTypes prog.depth 88=some (List.replicate 26 3):=by kernel_rfl
 have e2:prog.cellsOf 88=26:=by kernel_rfl
 rw[e2] at hsz
 obtain rfl:List.replicate 26 3=ts:=Option.some.inj (e1.symm.trans hts)
 have key:∀ i,(hi:i<26)→∃ n:Int,cs[i]?=some (.int .i64 n)∧-9223372036854775808≤n∧n≤9223372036854775807:=fun i hi=>by
  obtain⟨u,hu,hk⟩:=hc i _ (Array.getElem?_eq_getElem (by omega:i<cs.size))
  rw[List.length_replicate,Nat.mod_eq_of_lt hi,List.getElem?_replicate,if_pos hi] at hu
  obtain rfl:3=u:=Option.some.inj hu
  rw[Array.getElem?_eq_getElem (by omega:i<cs.size)]
  generalize cs[i]=x at hk
  simp only[Cell.okWide,Cell.ok,underlying3] at hk
  cases x<;>simp only[] at hk
  rename_i k n
  obtain⟨rfl,h2⟩:=hk
  exact⟨n,rfl,h2.1,h2.2⟩
 obtain⟨f,hf⟩:=exq (fun i=>_root_.Go.RowKit.intOf (cs[i]?.getD (.bool false)):Nat→Int)
 have hg:∀ i,i<26→cs[i]?=some (.int .i64 (f i))∧-9223372036854775808≤f i∧f i≤9223372036854775807:=fun i hi=>by
  obtain⟨n,h1,h2⟩:=key i hi
  have:f i=n:=by rw[hf];simp only[h1,Option.getD_some];rfl
  rw[this];exact⟨h1,h2⟩
 have hall:(⟨f 0,f 1,f 2,f 3,f 4,f 5,f 6,f 7,f 8,f 9,f 10,f 11,f 12,f 13,f 14,f 15,f 16,f 17,f 18,f 19,f 20,f 21,f 22,f 23,f 24,f 25⟩:Rp).all=(List.range 26).map f:=rfl
 refine⟨⟨f 0,f 1,f 2,f 3,f 4,f 5,f 6,f 7,f 8,f 9,f 10,f 11,f 12,f 13,f 14,f 15,f 16,f 17,f 18,f 19,f 20,f 21,f 22,f 23,f 24,f 25⟩,fun x hx=>?_,?_⟩
 ·rw[hall] at hx
  obtain⟨i,hi,rfl⟩:=List.mem_map.1 hx
  exact (hg i (List.mem_range.1 hi)).2
 ·refine congrArg Value.agg (Array.ext' ?_)
  rw[Rp.vs,hall]
  refine List.ext_getElem? fun i=>?_
  rw[Array.getElem?_toList]
  show cs[i]?=(((List.range 26).map f).map (Value.int .i64))[i]?
  rcases Nat.lt_or_ge i 26 with h|h
  ·rw[(hg i h).1,List.getElem?_map,List.getElem?_map,List.getElem?_range h];rfl
  ·rw[Array.getElem?_eq_none (by omega),List.getElem?_eq_none (by rw[List.length_map,List.length_map,List.length_range];exact h)]
end Go.Proofs.YtibemhahkicbpaaGreat
