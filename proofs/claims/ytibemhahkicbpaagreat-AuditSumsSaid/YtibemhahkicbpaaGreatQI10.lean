/-
  Parts of the proof, joined: KidB Gr Gp Sn TagA TgQ Bt Db Rd Re Eq. Conditions: as each theorem says.
-/
import Derived.Test.YtibemhahkicbpaaGreatQI09
import Derived.Lib.Split
import Derived.Laws.StructEq
set_option maxRecDepth 100000
set_option maxHeartbeats 8000000
namespace Go.Proofs.YtibemhahkicbpaaGreat
open Go.RowKit Go.Lib Tryz
section
variable {P:Program} {ops:Array Oper} {R:Exit→Act→World→Prop} {a:Act} {w w':World} {i:Nat} {rest:List Nat} {o:Oper} {ty:Tys}
theorem Q21 {v:Value}(ho:ops[i]?=some o)(hg:o.guard=none)(hr:(execOp a.eval o).run P w=.ok (.value v) w')(h:wpOps P ops R rest (a.put o.dst v) w'):wpOps P ops R (i::rest) a w:=by
 unfold wpOps
 rw[ho]
 simp only[Region.wanted,hg,if_true]
 exact .inl (Q4Y hr h)
theorem Qd1 (ho:ops[i]?=some o)(hg:o.guard=none)(hr:(execOp a.eval o).run P w=.ok .skip w')(h:wpOps P ops R rest (a.put o.dst undef) w'):wpOps P ops R (i::rest) a w:=by
 unfold wpOps
 rw[ho]
 simp only[Region.wanted,hg,if_true]
 refine .inl ?_
 unfold Oper.wp
 rw[hr]
 exact h
theorem Qhg (d:Nat)(v:Value):(a.put (some d) v).tmps.size=a.tmps.size:=by
 show (a.tmps.setIfInBounds d v).size=_
 simp
theorem Qhj {d:Nat}(h:d<a.tmps.size)(v:Value)(t:Nat):(a.put (some d) v).eval (.tmp t)=if t=d then v else a.eval (.tmp t):=by
 show (a.tmps.setIfInBounds d v).getD t undef=if t=d then v else a.tmps.getD t undef
 by_cases e:t=d
 ·subst e;simp[Array.getD_eq_getD_getElem?,h]
 ·rw[if_neg e]
  simp only[Array.getD_eq_getD_getElem?]
  rw[Array.getElem?_setIfInBounds_ne (Ne.symm e)]
structure At (N:Nat) (a:Act) (f:Nat→Value):Prop where
 defers:a.defers=[]
 size:a.tmps.size=N
 ev:∀ t,a.eval (.tmp t)=f t
theorem At.put {N:Nat}{f:Nat→Value}(h:At N a f){d:Nat}(hd:d<N)(v:Value):At N (a.put (some d) v) fun t=>if t=d then v else f t :=
 ⟨h.defers,by rw[Qhg];exact h.size,fun t=>by rw[Qhj (by rw[h.size];exact hd)];rw[h.ev]⟩
theorem Q8w {x:Operand}(ho:o.op=.move x∨o.op=.assign x):(execOp a.eval o).run P w=.ok (.value (a.eval x)) w:=by
 rcases ho with ho|ho<;>simp only[execOp,ho]<;>rfl
theorem Q5M {x:Operand}{ad:Addr}(ho:o.op=.nilCheck x)(hv:a.eval x=.pointer (some ad)):(execOp a.eval o).run P w=.ok (.value (.pointer (some ad))) w:=by
 simp only[execOp,ho,hv]<;>rfl
theorem Q5E (hT:TyOk P ty){T:Nat}{x:Operand}{f off t b u:Nat}(ho:o.op=.fieldAddr T x f)(hf:(Q3 T ty).flds[f]?=some (off,t))(hfo:fOk ty t=true)
  (hv:a.eval x=.pointer (some ⟨b,u,none⟩)):(execOp a.eval o).run P w=.ok (.value (.pointer (some ⟨b,u+off,none⟩))) w:=by
 obtain⟨fs,fd,h1,h2,h3⟩:=(QcM hT hf).strct' hf
 obtain⟨rfl,rfl⟩:off=fd.offset∧t=fd.type:=by simpa using h3
 simp only[fOk,Bool.and_eq_true,bne_iff_ne,ne_eq] at hfo
 have hs:=(Q2u hT hfo.1).size w
 simp only[execOp,ho]
 refine Q1N ?_
 rw[hv]
 simp[Instr.fieldAt,run_underlying h1,h2,Instr.sureAddr,fieldPlace,hs,hfo.2,Addr.add_mid]
theorem QeU (hT:TyOk P ty){T:Nat}{x:Operand}{b u:Nat}{y:Value}(ho:o.op=.load T x)(hok:(Q3 T ty).ok=true)(hag:(Q3 T ty).agg=false)
  (hv:a.eval x=.pointer (some ⟨b,u,none⟩)) (hc:w.cell? ⟨b,u,none⟩=some y):(execOp a.eval o).run P w=.ok (.value y) w:=by
 have:=(Q2u hT hok).isAgg w
 rw[hag] at this
 simp only[execOp,ho]
 refine Q1N ?_
 rw[hv]
 simp[Instr.loadAt,Instr.sureAddr,loadVar,this,hc]
theorem QcY (hT:TyOk P ty){T:Nat}{x y:Operand}{b u:Nat}{v:Value}(ho:o.op=.store T x y)(hok:(Q3 T ty).ok=true)(hsz:(Q3 T ty).size=1)
  (hv:a.eval x=.pointer (some ⟨b,u,none⟩)) (hy:a.eval y=v) (h1:v.oneCell'=true) {z:Value} (hc:w.cell? ⟨b,u,none⟩=some z) (hf:w.frozen? ⟨b,u,none⟩=false) :
  (execOp a.eval o).run P w=.ok .skip (w.setCells b u [v]):=by
 have hst:=run_storeCells_cells (P:=P) b u [v] 0 w (fun j hj=>by
  obtain rfl:j=0:=by simpa using hj
  show (w.cell? ⟨b,u,none⟩).isSome=true
  rw[hc];rfl) (fun j hj=>by
  obtain rfl:j=0:=by simpa using hj
  exact hf) (fun v' hv'=>by
  obtain rfl:v'=v:=by simpa using hv'
  exact h1)
 rw[Nat.add_zero] at hst
 have hsT:=(Q2u hT hok).size w
 rw[hsz] at hsT
 have hcl:v.cells=#[v]:=Q9D h1
 simp only[execOp,ho,Instr.storeAt,hv,hy,Instr.sureAddr,storeVar,Sem.run_bind,Sem.run_pure,Result.andThen_ok,hsT,hcl]
 simp[hst]
theorem Qj8 {x y:Operand}{T U:Nat}{v:Value}(ho:o.op=.call { callee:=.builtin .append,args:=#[x,y],argTypes:=#[T,U] })(hr:(Builtin.append_ #[T,U] o.type #[a.eval x,a.eval y]).run P w=.ok v w') :
  (execOp a.eval o).run P w=.ok (.value v) w':=by
 obtain⟨cs,hc⟩:=Q4u (P:=P) (a:=a) ho w
 rw[hc]
 show (do pure (Next.value (←Builtin.append_ #[T,U] o.type (Array.map a.eval #[x,y]))):Sem Next).run P w=_
 refine Q1N ?_
 simpa using hr
end
section
variable {w0:World} {g0:Gh} {o0:List Ob}
theorem Q9s {w:World}{b o:Nat}{v:Value}{cur:Array Value}{T:TypeId}{fr:Nat×Nat}(h:w.heap[b]?=some (.cells cur T fr))(hv:cur[o]?=some v):w.setCells b o [v]=w:=by
 have e:cur.setIfInBounds o v=cur:=by
  apply Array.ext'
  refine List.ext_getElem? fun j=>?_
  rw[Array.getElem?_toList,Array.getElem?_toList,Array.getElem?_setIfInBounds]
  split
  ·rename_i e;subst e
   split
   ·exact hv.symm
   ·rename_i hn;rw[Array.getElem?_eq_none (by omega)]
  ·rfl
 show ({ w with heap:=_ }:World)=w
 have e2:(w.heap.modify b fun
   |.cells c elem frozen=>.cells (if (none:Option Nat).isSome then c else c.setIfInBounds o v) elem frozen
   |o=>o)=w.heap:=by
  apply Array.ext'
  refine List.ext_getElem? fun j=>?_
  rw[Array.getElem?_toList,Array.getElem?_toList,Array.getElem?_modify]
  split
  ·rename_i e3;subst e3
   rw[h]
   simp[e]
  ·rfl
 exact congrArg (fun x=>({ w with heap:=x }:World)) e2
theorem Qfv {ob:List Ob}{args:List AV}{g:Gh}{w:World}{vs:List Value}{N:Nat}(M:Mem w g ob)(hL:Q2L w g ob vs args)(hn:args.length≤N) :
  Sim w g ob N ⟨ent 0 args,ob⟩ { tmps:=vs.toArray++Array.replicate (N-vs.toArray.size) undef,defers:=[] } w:=by
 have hlen:vs.length=args.length:=hL.1
 refine⟨rfl,?_,g,M,fun t=>?_,Step.refl⟩
 ·simp;omega
 ·show ARel w g ob _ (lk t (ent 0 args))
  rw[Qdv]
  simp only[Nat.zero_le,if_true,Nat.sub_zero]
  by_cases ht:t<args.length
  ·rw[List.getD_eq_getElem?_getD,List.getElem?_eq_getElem ht,Option.getD_some]
   have e:(vs.toArray++Array.replicate (N-vs.toArray.size) undef).getD t undef=vs[t]'(by omega):=by
    rw[Array.getD_eq_getD_getElem?,Array.getElem?_append_left (by simp;omega)]
    simp[show t<vs.length by omega]
   rw[e]
   exact (hL.2 t _ _ (List.getElem?_eq_getElem (by omega)) (List.getElem?_eq_getElem ht)).to
  ·rw[List.getD_eq_getElem?_getD,List.getElem?_eq_none (by omega)]
   trivial
end
theorem Qas {P:Program}{fn:Func}(h:fn.results=#[])(tmps:Array Value)(w:World):(results fn tmps).run P w=.ok (.tuple #[]) w:=by
 simp[results,h]
noncomputable def kidR0:Code:=match f42.body with|some (.seq c _)=>c|_=>.skip
noncomputable def kidR1:Code:=match f42.body with|some (.seq _ c)=>c|_=>.skip
def Qku (ob:List Ob)(k:Nat)(i n:Int)(e:Ex)(s:St):Prop:=e=.normal∧s.ob=ob∧lk 4 s.tm=.rptr k 0 i 0∧lk 1 s.tm=.val (.int .i64 n)
theorem QiJ {ob:List Ob}{k:Nat}{bs tp:AV}{xs:List AV}(hb:ob[0]?=some (.box [bs,tp,.row k 0]))(hk:ob[k]?=some (.row Q4v 2 false 0 xs)){i n:Int}
  (hr0:∀ w0 g0,(Q8 std tys cs0 (fun _=>.nil) kidR0 (fun e s=>.leaf e s) ⟨ent 0 [.box 0 0,.val (.int .i64 n)],ob⟩).ok prog w0 g0 ob 26 (Qku ob k i n))
  {a u:AV} {us:List AV} (hi:0≤i) (hx:xs[i.toNat]?=some (.agg [a,u])) (hu:u=.slc 1 us∨(u=.val (.slice none 0 0)∧us=[])) (hul:us.length≤1000000) :
  BCall prog 42 [.box 0 0,.val (.int .i64 n)] ob (.tup []) ((ob.set k (.row Q4v 2 false 1 (xs.set i.toNat (.agg [a,.slc 1 (us++[.val (.int .i64 n)])])))).set 0 (.box [bs,tp,.row k 1])):=by
 refine⟨enters_of func42 (by kernel_rfl) rfl,fun w0 g0 vs M0 hL=>calls_of_wp func42 (c:=.seq kidR0 kidR1) rfl ?_⟩
 refine wp_seq (Q3j (w0:=w0) (g0:=g0) (o0:=ob) (N:=26) (Q:=Qku ob k i n) (cs:=cs0) (ord:=fun _=>.nil) Q6N (by kernel_rfl) kidR0 (fun e s=>.leaf e s) _ ⟨ent 0 [.box 0 0,.val (.int .i64 n)],ob⟩ _ w0 (by kernel_rfl) (by kernel_rfl) (fun c a d v w h=>h) (fun e s ac w hs hq=>?_) (Qfv M0 hL (Nat.le_of_ble_eq_true rfl)) (hr0 w0 g0))
 obtain⟨rfl,hob,h4,h1⟩:=(show Qku ob k i n e s from hq)
 show kidR1.wp _ _ ac w
 refine wp_region ?_
 show wpOps _ _ _ [0,1,2,3,4,5,6,7,8,9,10] ac w
 obtain⟨hdf,hsz,g,M,hS,h0⟩:=hs
 rw[hob] at M h0
 have hk0:k≠0:=by rintro rfl;rw[hb] at hk;cases hk
 -- what the slots hold
 have hp:=hS 4
 rw[h4,hob] at hp
 obtain⟨_,et,sz,fz,ee,xs',hob',_,hp2⟩:=(show ARel0 w g ob _ (.rptr k 0 i 0) from hp)
 rw[hk] at hob'
 cases hob'
 obtain⟨b,c,hpv,_,hil,hRV⟩:=hp2 rfl
 have hn:=hS 1
 rw[h1] at hn
 have hnv:=hn.valEq
 -- the maker's box
 obtain⟨hG0,cur,T0,hh0,hc0⟩:=M.box 0 _ hb
 have hcl:cur.toList.length=3:=hc0.1
 obtain⟨v,hv⟩:∃ v,cur.toList[2]?=some v:=⟨_,List.getElem?_eq_getElem (by omega)⟩
 obtain⟨⟨hv1,et,sz,fz,ee,xs',hob',_,hv2⟩,_⟩:=hc0.2 2 v (.row k 0) hv rfl
 rw[hk] at hob'
 cases hob'
 have hRB:=hv2 rfl
 obtain⟨ysP,hoP,hGP,_,_,hsP,_⟩:=hRV
 obtain⟨ysB,hoB,hGB,_,_,hsB,_⟩:=(show RowV w g k Q4v 2 v xs from hRB)
 rcases hoB.2 with ⟨_,h00⟩|⟨bB,cap,curB,rfl,_,hhB,_,_,_,_⟩
 ·omega
 obtain rfl:b=bB:=M.uniq _ _ k (hGP b rfl) (hGB bB rfl) (hsP b rfl) (hsB bB rfl)
 obtain⟨y,zs,hcell,hown,hone,hal,hus,hyb⟩:=Qjj M hk hRB hx hu
 have hGb:=hGB b rfl
 have hbl:=(M.own b k hGb).1
 have hyne:y.ownBlock≠some b:=fun e=>by
  have:=(hyb b e).2.1
  rw[hsB b rfl] at this;cases this
 have h0ne:g.loc 0≠b:=fun e=>by
  rw[e,hGb] at hG0
  exact hk0 (Option.some.inj hG0)
 have h0ny:y.ownBlock≠some (g.loc 0):=fun e=>by
  have:=(hyb _ e).1
  rw[hG0] at this
  exact hk0 (Option.some.inj this).symm
 -- one operation after the other
 have A0:At 26 ac (fun t=>ac.eval (.tmp t)):=⟨hdf,hsz,fun _=>rfl⟩
 have e4:ac.eval (.tmp 4)=.pointer (some ⟨b,i.toNat * 2+0,none⟩):=hpv
 have e1:ac.eval (.tmp 1)=.int .i64 n:=hnv
 generalize hPV:Value.pointer (some ⟨b,i.toNat * 2+0,none⟩)=PV at e4
 refine Q21 rfl rfl (Q8w (x:=.tmp 4) (.inl rfl)) ?_
 rw[e4]
 show wpOps _ _ _ [1,2,3,4,5,6,7,8,9,10] (ac.put (some 16) PV) w
 have A1:=A0.put (d:=16) (by decide) PV
 generalize ac.put (some 16) PV=a1 at A1 ⊢
 refine Q21 rfl rfl (Q8w (x:=.tmp 4) (.inl rfl)) ?_
 rw[show a1.eval (.tmp 4)=PV by rw[A1.ev];exact e4]
 show wpOps _ _ _ [2,3,4,5,6,7,8,9,10] (a1.put (some 17) PV) w
 have A2:=A1.put (d:=17) (by decide) PV
 generalize a1.put (some 17) PV=a2 at A2 ⊢
 refine Q21 rfl rfl (Q5M (x:=.tmp 17) (ad:=⟨b,i.toNat * 2+0,none⟩) rfl (by rw[A2.ev,hPV];rfl)) ?_
 rw[hPV]
 show wpOps _ _ _ [3,4,5,6,7,8,9,10] (a2.put (some 18) PV) w
 have A3:=A2.put (d:=18) (by decide) PV
 generalize a2.put (some 18) PV=a3 at A3 ⊢
 refine Q21 rfl rfl (Q5E Q6N (x:=.tmp 18) (off:=1) (t:=23) rfl (by kernel_rfl) (by kernel_rfl) (b:=b) (u:=i.toNat * 2+0) (by rw[A3.ev,hPV];rfl)) ?_
 rw[Nat.add_zero]
 generalize hFV:Value.pointer (some ⟨b,i.toNat * 2+1,none⟩)=FV
 show wpOps _ _ _ [4,5,6,7,8,9,10] (a3.put (some 19) FV) w
 have A4:=A3.put (d:=19) (by decide) FV
 generalize a3.put (some 19) FV=a4 at A4 ⊢
 refine Q21 rfl rfl (QeU Q6N (x:=.tmp 19) rfl (by kernel_rfl) (by kernel_rfl) (b:=b) (u:=i.toNat * 2+1) (by rw[A4.ev,hFV];rfl) hcell) ?_
 show wpOps _ _ _ [5,6,7,8,9,10] (a4.put (some 20) y) w
 have A5:=A4.put (d:=20) (by decide) y
 generalize a4.put (some 20) y=a5 at A5 ⊢
 refine Q21 rfl rfl (Q8w (x:=.tmp 1) (.inl rfl)) ?_
 rw[show a5.eval (.tmp 1)=.int .i64 n by rw[A5.ev];exact e1]
 generalize hNV:Value.int .i64 n=NV
 show wpOps _ _ _ [6,7,8,9,10] (a5.put (some 21) NV) w
 have A6:=A5.put (d:=21) (by decide) NV
 generalize a5.put (some 21) NV=a6 at A6 ⊢
 -- the slice of one number
 obtain⟨e,hu25,hee,te,hes,_⟩:=Q3z Q6N (T:=23) (sz:=1) (by kernel_rfl)
 obtain⟨ie,z,hie,hies,hieb,hiz,hzc⟩:=te.i
 have hek:e=QeK:=hee.trans (by kernel_rfl)
 rw[hes] at hies
 have hzs:z.cells.size=1:=by
  have:=congrArg List.length hzc
  rw[Array.length_toList,te.zl,hes] at this
  exact this
 have hN1:NV.cells=#[NV]:=by rw[←hNV];rfl
 obtain⟨c',hf,hc'⟩:=Q6Z (sz:=1) [NV] 0 ((Array.range (1 * 1)).map (z.cells[· % z.cells.size]!)) (fun v' hv'=>by
  obtain rfl:v'=NV:=by simpa using hv'
  rw[hN1];rfl) (by simp)
 obtain rfl:c'=#[NV]:=by
  apply Array.ext'
  rw[hc']
  simp[hN1]
 have hrB:(Instr.buildSlice 23 1 #[(0,NV)]).run prog w=.ok (.slice (some ⟨w.heap.size,0,none⟩) 1 1) (w.alloc (.cells #[NV] e)) :=
  run_buildSlice w 23 e 1 _ _ ie z hu25 hie hiz (by rw[hies];decide) (by rw[hies];decide) (by rw[hies];exact hf)
 refine Q21 (w':=w.alloc (.cells #[NV] e)) (v:=.slice (some ⟨w.heap.size,0,none⟩) 1 1) rfl rfl (by
  simp only[execOp]
  refine Q1N ?_
  have:(#[(0,Operand.tmp 21)].map fun (x:Nat×Operand)=>(x.1,a6.eval x.2))=#[(0,NV)]:=by
   simp[A6.ev]
  rw[←this] at hrB
  exact hrB) ?_
 have hhN:(w.alloc (.cells #[NV] e)).heap[w.heap.size]?=some (.cells #[NV] e (0,0)):=Q4L w _
 have hB1:Below w.heap.size w (w.alloc (.cells #[NV] e)):=(Below.refl _ w).alloc (Nat.le_refl _) _
 have hold:∀ b',b'<w.heap.size→(w.alloc (.cells #[NV] e)).heap[b']?=w.heap[b']?:=fun b' h=>Q3f h
 generalize hSV:Value.slice (some ⟨w.heap.size,0,none⟩) 1 1=SV
 show wpOps _ _ _ [7,8,9,10] (a6.put (some 22) SV) _
 generalize w.alloc (.cells #[NV] e)=w1 at hhN hB1 hold ⊢
 have A7:=A6.put (d:=22) (by decide) SV
 generalize a6.put (some 22) SV=a7 at A7 ⊢
 obtain⟨v',w2,hrA,ho2,hg,hvb,hc2⟩:=Q8I (P:=prog) (w:=w1) (t:=23) (u:=23) (ty:=23) hu25 hu25 (.inl ⟨_,rfl⟩) hie hiz hies (by rw[hieb];exact te.by_) hzs
  (Q2C (hek ▸ hown) fun b' hb'=>hold b' (hyb b' hb').2.2.2) (x:=SV) (m:=1) (news:=[NV]) rfl (fun W=>by rw[←hSV];rfl)
  (fun W hW=>by
    rw[←hSV]
    refine run_firstCells_some (P:=prog) W 1 1 _ _ _ [NV] rfl (fun j u hj=>?_)
    cases j with
    |zero =>
     obtain rfl:NV=u:=by simpa using hj
     show W.cell? ⟨w.heap.size,0+0,none⟩=_
     simp[World.cell?,hW,hhN]
    |succ j=>simp at hj) (fun u hu=>by
    obtain rfl:u=NV:=by simpa using hu
    rw[←hNV];rfl) (by omega)
 refine Q21 rfl rfl (Qj8 (x:=.tmp 20) (y:=.tmp 22) rfl (by
  rw[show a7.eval (.tmp 20)=y by rw[A7.ev];rfl,show a7.eval (.tmp 22)=SV by rw[A7.ev];rfl]
  exact hrA)) ?_
 show wpOps _ _ _ [8,9,10] (a7.put (some 23) v') w2
 have A8:=A7.put (d:=23) (by decide) v'
 generalize a7.put (some 23) v'=a8 at A8 ⊢
 refine Q21 rfl rfl (Q5M (x:=.tmp 16) (ad:=⟨b,i.toNat * 2+0,none⟩) rfl (by rw[A8.ev,hPV];rfl)) ?_
 rw[hPV]
 show wpOps _ _ _ [9,10] (a8.put (some 24) PV) w2
 have A9:=A8.put (d:=24) (by decide) PV
 generalize a8.put (some 24) PV=a9 at A9 ⊢
 refine Q21 rfl rfl (Q5E Q6N (x:=.tmp 24) (off:=1) (t:=23) rfl (by kernel_rfl) (by kernel_rfl) (b:=b) (u:=i.toNat * 2+0) (by rw[A9.ev,hPV];rfl)) ?_
 rw[Nat.add_zero,hFV]
 show wpOps _ _ _ [10] (a9.put (some 25) FV) w2
 have A10:=A9.put (d:=25) (by decide) FV
 generalize a9.put (some 25) FV=a10 at A10 ⊢
 have hh2:w2.heap[b]?=w.heap[b]?:=by
  rw[hg.block b (Nat.lt_of_lt_of_le hbl hB1.size) (fun e=>hyne e.symm),hold b hbl]
 have hv'1:v'.oneCell'=true:=by
  rcases ho2.2 with ⟨_,h00⟩|⟨b',cap',cur',rfl,_⟩
  ·omega
  ·rfl
 refine Qd1 (w':=w2.setCells b (i.toNat * 2+1) [v']) rfl rfl (QcY Q6N (x:=.tmp 25) (y:=.tmp 23) rfl (by kernel_rfl) (by kernel_rfl) (by rw[A10.ev,hFV];rfl) (by rw[A10.ev];rfl) hv'1 (z:=y)
  (by rw[World.cell?_of_block (w:=w) hh2];exact hcell) (by simp[World.frozen?,hh2,hhB])) ?_
 obtain⟨g3,M3,S3,R3⟩:=Qil M hk hRB hx hcell hown hal hus hyb (n:=n) hB1 (hNV ▸ hek ▸ ho2) hg hvb hc2
 generalize hw3:w2.setCells b (i.toNat * 2+1) [v']=w3 at M3 S3 R3 ⊢
 have hb3:(ob.set k (.row Q4v 2 false (0+1) (xs.set i.toNat (.agg [a,.slc 1 (us++[.val (.int .i64 n)])]))))[0]?=some (.box [bs,tp,.row k 0]):=by
  rw[List.getElem?_set_ne hk0];exact hb
 have hl0:g3.loc 0=g.loc 0:=S3.ext.loc 0 (Q7 hb)
 have hh3:w3.heap[g.loc 0]?=some (.cells cur T0 (0,0)):=by
  have hlt:=(M.own _ _ hG0).1
  rw[←hw3,Q19 (k:=0) h0ne,hg.block _ (Nat.lt_of_lt_of_le hlt hB1.size) (fun e=>h0ny e.symm),hold _ hlt]
  exact hh0
 have M4:=M3.store hb3 (off:=2) (vs:=[Value.slice (some ⟨b,0,none⟩) xs.length cap]) (us:=[.row k 1]) ⟨rfl,fun j y' u' hy' hu'=>by
  cases j with
  |zero =>
   obtain rfl:Value.slice (some ⟨b,0,none⟩) xs.length cap=y':=by simpa using hy'
   obtain rfl:AV.row k 1=u':=by simpa using hu'
   exact⟨⟨rfl,Q4v,2,false,1,_,List.getElem?_set_self (Q7 hk),Nat.le_refl _,fun _=>by
    have hlx:(xs.set i.toNat (.agg [a,.slc 1 (us++[.val (.int .i64 n)])])).length=xs.length:=by rw[List.length_set]
    exact R3⟩,rfl⟩
  |succ j=>simp at hy'⟩ (Nat.le_refl _)
 have S4:=Step.store M3 hb3 2 [Value.slice (some ⟨b,0,none⟩) xs.length cap] [bs,tp,.row k 1]
 rw[hl0,Q9s hh3 (by rw[←Array.getElem?_toList];exact hv)] at M4 S4
 show bodyPost _ _ _ .normal _ _
 subst hNV
 exact⟨A10.defers,_,Qas rfl _ _,_,g3,rfl,M4,⟨#[],rfl,rfl,fun j y' u' h=>by simp at h⟩,(h0.trans S3).trans S4⟩
end Go.Proofs.YtibemhahkicbpaaGreat
namespace Go.Proofs.YtibemhahkicbpaaGreat
open Go.RowKit Go.Lib Tryz
structure Node where
 kind:Int
 width:Int
 count:Int
 leaf:Bool
 b:List UInt8
 kids:List Int
 deriving Inhabited
def Node.av (x:Node):AV:=.agg [.val (.int .i64 x.kind),.val (.int .i64 x.width),.val (.int .i64 x.count),.val (.bool x.leaf),.slc 1 (Q5 x.b),.slc 1 (Q9 x.kids)]
def Q0 (l:List Node):List AV:=l.map Node.av
theorem QT (l:List Node):(Q0 l).length=l.length:=by simp[Q0]
def Q7t:Node:=⟨0,0,0,false,[],[]⟩
def Qe (l:List Node)(n:Int):Node:=if 0≤n∧n<l.length then l[n.toNat]?.getD Q7t else Q7t
theorem Q6Q {l:List Node}{n:Int}(h0:0≤n)(h1:n<l.length):(Q0 l)[n.toNat]?.getD .dead=(Qe l n).av:=by
 rw[Qe,if_pos ⟨h0,h1⟩]
 exact QfK Node.av h0 h1 Q7t
theorem QkV (l:List Node):BCall prog 118 [.ref [.slc 6 (Q0 l)]] [] (.val (.int .i64 l.length)) []:=by
 refine fnN (cs:=cs0) func118 rfl (by kernel_rfl) ?_
 intro w0 g0
 generalize hp:std=p,hxs:Q0 l=xs
 generalize hT:Q8 p tys (cs0) _ _ _ _=T
 cbv at hT
 subst hT
 simp only[Tree.ok,Q4,S0]
 subst hp hxs
 refine⟨by simp[std,Q2H,Q1O],.pure rfl (.inl ?_)⟩
 simp[std,Q1O,Q0]
def QhQ (len:List AV→Int):Nat→List AV→List Ob→Option (AV×List Ob):=fun f args _=>match f,args with
 |118,[.ref [.slc 6 xs]]=>some (.val (.int .i64 (len xs)),[])
 |_,_=>none
def Q3X (xs:List AV):Int:=xs.length
theorem Q9E (l:List Node):BCall prog 118 [.ref [.slc 6 (Q0 l)]] [] (.val (.int .i64 (Q3X (Q0 l)))) []:=by
 have:=QkV l
 rw[←QT] at this
 exact this
theorem QjN (l:List Node)(n:Int):BCall prog 117 [.ref [.slc 6 (Q0 l)],.val (.int .i64 n)] [] (Qe l n).av []:=by
 refine fnN (cs:=QhQ Q3X) func117 rfl (by kernel_rfl) ?_
 intro w0 g0
 generalize hp:std=p,hlen:Q3X=len,hxs:Q0 l=xs
 generalize hT:Q8 p tys (QhQ len) _ _ _ _=T
 cbv at hT
 subst hT
 simp only[Tree.ok,Q4,S0]
 subst hp hlen hxs
 have hlen:=QT l
 refine⟨fun h1=>.pure rfl ?_,fun h1=>⟨Q9E l,fun h2=>.pure rfl ?_,fun h2=>⟨?_,?_,?_,.pure rfl ?_⟩⟩⟩
 ·have h1:n<0:=by simpa[std] using h1
  have:¬ (0≤n∧n<l.length):=by omega
  simp[Qe,this,Node.av,Q7t,leA,QbE,leL,leC,Q5,Q9]
 ·have h2:(l.length:Int)≤n:=by simpa[std,Q3X,hlen] using h2
  have:¬ (0≤n∧n<l.length):=by omega
  simp[Qe,this,Node.av,Q7t,leA,QbE,leL,leC,Q5,Q9]
 ·simp[std,Q2H,Q1O]
 all_goals
  have h1:0≤n:=by simpa[std] using h1
  have h2:n<l.length:=by simpa[std,Q3X,hlen] using h2
  have hat:=Q6Q h1 h2
 ·simp[std,Q1O,hlen,h1,h2]
 ·simp[std,Q2H,Q1O,hat,Node.av,AV.cells,Qg,Q53]
 ·simp[std,Q2H,Q1O,hat,Node.av,AV.cells,Qg,Q53,leA,QbE,leL,leC]
def QeL (k w c:Int→Int)(lf:Int→Bool)(b s:Int→List AV):Nat→List AV→List Ob→Option (AV×List Ob):=fun f args _=>match f,args with
 |117,[.ref [.slc 6 _],.val (.int .i64 n)]=>some (.agg [.val (.int .i64 (k n)),.val (.int .i64 (w n)),.val (.int .i64 (c n)),.val (.bool (lf n)),.slc 1 (b n),.slc 1 (s n)],[])
 |121,[.slc 1 xs]=>some (.slc 1 xs,[])
 |214,[.slc 1 xs]=>some (.slc 1 xs,[])
 |86,[.slc 1 xs]=>some (.slc 1 xs,[])
 |_,_=>none
def QD (l:List Node)(n:Int):Int:=(Qe l n).kind
def QJ (l:List Node)(n:Int):Int:=(Qe l n).width
def Q1L (l:List Node)(n:Int):Int:=(Qe l n).count
def Q9z (l:List Node)(n:Int):Bool:=(Qe l n).leaf
def bN (l:List Node)(n:Int):List AV:=Q5 (Qe l n).b
def Q1n (l:List Node)(n:Int):List AV:=Q9 (Qe l n).kids
theorem Qk9 (l:List Node)(n:Int):BCall prog 115 [.ref [.slc 6 (Q0 l)],.val (.int .i64 n)] [] (.val (.int .i64 (Qe l n).kind)) []:=by
 refine fnN (cs:=QeL (QD l) (QJ l) (Q1L l) (Q9z l) (bN l) (Q1n l)) func115 rfl (by kernel_rfl) ?_
 intro w0 g0
 generalize hp:std=p,hk:QD l=k,hw:QJ l=w,hc:Q1L l=c,hlf:Q9z l=lf,hb:bN l=b,hs:Q1n l=s,hxs:Q0 l=xs
 generalize hT:Q8 p tys (QeL k w c lf b s) _ _ _ _=T
 cbv at hT
 subst hT
 simp only[Tree.ok,Q4,S0]
 subst hp hk hw hc hlf hb hs hxs
 exact⟨QjN l n,.pure rfl (.inl rfl)⟩
theorem Qir (l:List Node)(n:Int):BCall prog 58 [.ref [.slc 6 (Q0 l)],.val (.int .i64 n)] [] (.val (.int .i64 (Qe l n).width)) []:=by
 refine fnN (cs:=QeL (QD l) (QJ l) (Q1L l) (Q9z l) (bN l) (Q1n l)) func58 rfl (by kernel_rfl) ?_
 intro w0 g0
 generalize hp:std=p,hk:QD l=k,hw:QJ l=w,hc:Q1L l=c,hlf:Q9z l=lf,hb:bN l=b,hs:Q1n l=s,hxs:Q0 l=xs
 generalize hT:Q8 p tys (QeL k w c lf b s) _ _ _ _=T
 cbv at hT
 subst hT
 simp only[Tree.ok,Q4,S0]
 subst hp hk hw hc hlf hb hs hxs
 exact⟨QjN l n,.pure rfl (.inl rfl)⟩
theorem QhC (l:List Node)(n:Int)(hn:(Qe l n).kids.length≤1000000000):BCall prog 68 [.ref [.slc 6 (Q0 l)],.val (.int .i64 n)] [] (.slc 1 (Q9 (Qe l n).kids)) []:=by
 refine fnN (cs:=QeL (QD l) (QJ l) (Q1L l) (Q9z l) (bN l) (Q1n l)) func68 rfl (by kernel_rfl) ?_
 intro w0 g0
 generalize hp:std=p,hk:QD l=k,hw:QJ l=w,hc:Q1L l=c,hlf:Q9z l=lf,hb:bN l=b,hs:Q1n l=s,hxs:Q0 l=xs
 generalize hT:Q8 p tys (QeL k w c lf b s) _ _ _ _=T
 cbv at hT
 subst hT
 simp only[Tree.ok,Q4,S0]
 subst hp hk hw hc hlf hb hs hxs
 exact⟨QjN l n,Qc0 _ (by simpa[Q1n,Q9] using hn),.pure rfl (.inl rfl)⟩
theorem QkH:BCall prog 41 [] [] (.box 0 0) [.box [.val (.slice none 0 0)]]:=by
 refine fnO true (cs:=cs0) (ord:=fun _=>.nil) func41 rfl (by kernel_rfl) ?_
 intro w0 g0
 generalize hp:std=p
 generalize hT:Q8 p tys (cs0) _ _ _ _=T
 cbv at hT
 subst hT
 simp only[Tree.ok,Q4,S0]
 subst hp
 exact⟨[some 0],.box 0 0,_,rfl,rfl,Nat.zero_le _,rfl,⟨rfl,rfl,trivial⟩,.inl rfl⟩
theorem QjG (xs:List AV)(hn:xs.length<1000000000)(k w c:Int)(lf:Bool)(b kids:List AV) :
  BCall prog 85 [.box 0 0,.agg [.val (.int .i64 k),.val (.int .i64 w),.val (.int .i64 c),.val (.bool lf),.slc 1 b,.slc 1 kids]] [.box [.row 1 0],.row 182 6 false 0 xs] (.val (.int .i64 xs.length)) [.box [.row 1 1],.row 182 6 false 1 (xs++[.agg [.val (.int .i64 k),.val (.int .i64 w),.val (.int .i64 c),.val (.bool lf),.slc 1 b,.slc 1 kids]])]:=by
 refine fnN (cs:=cs0) func85 rfl (by kernel_rfl) ?_
 intro w0 g0
 generalize hp:std=p
 generalize hT:Q8 p tys (cs0) _ _ _ _=T
 cbv at hT
 subst hT
 simp only[Tree.ok,Q4,S0]
 subst hp
 refine⟨?_,?_,[some 0,some 1],.val (.int .i64 xs.length),_,rfl,rfl,Nat.le_refl _,rfl,?_,.inl rfl⟩
 ·simp[std];omega
 ·show (-9223372036854775808:Int)≤_∧_≤(9223372036854775807:Int)
  simp[std];omega
 ·simp[Qh,std]
theorem Qkm (k w c:Int)(lf:Bool)(b kids:List AV) :
  BCall prog 85 [.box 0 0,.agg [.val (.int .i64 k),.val (.int .i64 w),.val (.int .i64 c),.val (.bool lf),.slc 1 b,.slc 1 kids]] [.box [.val (.slice none 0 0)]] (.val (.int .i64 0)) [.box [.row 1 1],.row 182 6 false 1 [.agg [.val (.int .i64 k),.val (.int .i64 w),.val (.int .i64 c),.val (.bool lf),.slc 1 b,.slc 1 kids]]]:=by
 refine fnN (cs:=cs0) func85 rfl (by kernel_rfl) ?_
 intro w0 g0
 generalize hp:std=p
 generalize hT:Q8 p tys (cs0) _ _ _ _=T
 cbv at hT
 subst hT
 simp only[Tree.ok,Q4,S0]
 subst hp
 refine⟨?_,?_,[some 0,some 3],.val (.int .i64 0),_,rfl,rfl,Nat.le_succ _,rfl,?_,.inl rfl⟩
 ·simp[std]
 ·show (-9223372036854775808:Int)≤_∧_≤(9223372036854775807:Int)
  simp[std]
 ·simp[Qh,std]
def Qj (kind:Int)(b:List UInt8):Node:=⟨kind,b.length,1,true,b,[]⟩
def Q5J (p:Pr):Nat→List AV→List Ob→Option (AV×List Ob):=fun f args ob=>match f,args with
 |85,[.box 0 0,.agg [k,w,c,l,b,s]]=>match ob with
  | [.box [.row 1 0],.row 182 6 false 0 xs]=>some (.val (.int .i64 (p.len xs)),[.box [.row 1 1],.row 182 6 false 1 (p.app xs [.agg [k,w,c,l,match b with|.val (.slice none 0 0)=>.slc 1 []|b=>b,match s with|.val (.slice none 0 0)=>.slc 1 []|s=>s]])])
  | [.box [.val (.slice none 0 0)]]=>some (.val (.int .i64 0),[.box [.row 1 1],.row 182 6 false 1 [.agg [k,w,c,l,match b with|.val (.slice none 0 0)=>.slc 1 []|b=>b,match s with|.val (.slice none 0 0)=>.slc 1 []|s=>s]]])
  |_=>none
 |121,[.slc 1 xs]=>some (.slc 1 xs,[])
 |86,[.slc 1 xs]=>some (.slc 1 xs,[])
 |86,[.val (.slice none 0 0)]=>some (.slc 1 [],[])
 |_,_=>none
theorem Qg3 (l:List Node)(hl:l.length<1000000000)(kind:Int)(b:List UInt8)(hb:b.length≤1000000000) :
  BCall prog 43 [.box 0 0,.val (.int .i64 kind),.slc 1 (Q5 b)] [.box [.row 1 0],.row 182 6 false 0 (Q0 l)] (.val (.int .i64 l.length)) [.box [.row 1 1],.row 182 6 false 1 (Q0 (l++[Qj kind b]))]:=by
 refine fnN (cs:=Q5J std) func43 rfl (by kernel_rfl) ?_
 intro w0 g0
 generalize hp:std=p,hbs:Q5 b=bs,hxs:Q0 l=xs
 generalize hT:Q8 p tys (Q5J p) _ _ _ _=T
 cbv at hT
 subst hT
 simp only[Tree.ok,Q4,S0]
 subst hp hbs hxs
 refine⟨Q6k _ (by simpa[Q5] using hb),?_,[some 0,some 1],.val (.int .i64 l.length),_,rfl,rfl,Nat.le_refl _,rfl,?_,.inl rfl⟩
 ·exact (QjG (Q0 l) (by simpa[Q0] using hl) kind _ 1 true (Q5 b) []).le ⟨.inl rfl,⟨.inl rfl,.inl rfl,.inl rfl,.inl rfl,.inl rfl,.inr (.inl ⟨rfl,_,rfl⟩),trivial⟩,trivial⟩
 ·simp[Qh,std,Q0,Qj,Node.av,Q5,Q9]
theorem Qjp (kind:Int)(b:List UInt8)(hb:b.length≤1000000000) :
  BCall prog 43 [.box 0 0,.val (.int .i64 kind),.slc 1 (Q5 b)] [.box [.val (.slice none 0 0)]] (.val (.int .i64 0)) [.box [.row 1 1],.row 182 6 false 1 (Q0 [Qj kind b])]:=by
 refine fnN (cs:=Q5J std) func43 rfl (by kernel_rfl) ?_
 intro w0 g0
 generalize hp:std=p,hbs:Q5 b=bs
 generalize hT:Q8 p tys (Q5J p) _ _ _ _=T
 cbv at hT
 subst hT
 simp only[Tree.ok,Q4,S0]
 subst hp hbs
 refine⟨Q6k _ (by simpa[Q5] using hb),?_,[some 0,some 1],.val (.int .i64 0),_,rfl,rfl,Nat.le_succ _,rfl,?_,.inl rfl⟩
 ·exact (Qkm kind _ 1 true (Q5 b) []).le ⟨.inl rfl,⟨.inl rfl,.inl rfl,.inl rfl,.inl rfl,.inl rfl,.inr (.inl ⟨rfl,_,rfl⟩),trivial⟩,trivial⟩
 ·simp[Qh,std,Q0,Qj,Node.av,Q5,Q9]
def Q1l (l:List Node)(ks:List Int):Int:=(ks.map (QJ l)).sum
def cnt (l:List Node)(ks:List Int):Int:=ks.foldl (fun c k=>min (c+Q1L l k) 2147483647) 1
def QM (l:List Node)(kind:Int)(ks:List Int):Node:=⟨kind,Q1l l ks,cnt l ks,false,[],ks⟩
theorem Q4g {l:List Node}(hw:∀ n,0≤QJ l n)(ks:List Int):0≤Q1l l ks:=by
 induction ks with
 |nil=>simp[Q1l]
 |cons k r ih=>have:=hw k;simp only[Q1l,List.map_cons,List.sum_cons] at ih ⊢;omega
theorem Q7K {l:List Node}(hw:∀ n,0≤QJ l n)(ks:List Int)(n:Nat):Q1l l (ks.take n)≤Q1l l ks:=by
 have h:=Q4g hw (ks.drop n)
 have e:Q1l l ks=Q1l l (ks.take n)+Q1l l (ks.drop n):=by
  rw[Q1l,Q1l,Q1l,←List.sum_append,←List.map_append,List.take_append_drop]
 omega
theorem Q78 {l:List Node}(hc:∀ n,0≤Q1L l n∧Q1L l n≤2147483647)(ks:List Int):0≤cnt l ks∧cnt l ks≤2147483647:=by
 have key:∀ (ks:List Int) (c:Int),0≤c∧c≤2147483647→0≤ks.foldl (fun c k=>min (c+Q1L l k) 2147483647) c∧ks.foldl (fun c k=>min (c+Q1L l k) 2147483647) c≤2147483647:=by
  intro ks
  induction ks with
  |nil=>intro c h;exact h
  |cons k r ih=>intro c h;have:=hc k;exact ih (min (c+Q1L l k) 2147483647) (by omega)
 exact key ks 1 (by omega)
theorem Qcz (l:List Node)(hl:l.length<1000000000)(kind:Int)(ks:List Int)(hks:ks.length≤1000000000)(hin:∀ k∈ks,0≤k∧k<l.length)(hw:∀ n,0≤QJ l n)(hc:∀ n,0≤Q1L l n∧Q1L l n≤2147483647)(hsum:Q1l l ks≤2147483647) :
  BCall prog 90 [.box 0 0,.val (.int .i64 kind),.slc 1 (Q9 ks)] [.box [.row 1 0],.row 182 6 false 0 (Q0 l)] (.tup [.val (.int .i64 l.length),.val (.int .i64 0)]) [.box [.row 1 1],.row 182 6 false 1 (Q0 (l++[QM l kind ks]))]:=by
 refine fnN (cs:=Q5J std) func90 rfl (by kernel_rfl) ?_
 intro w0 g0
 generalize hp:std=p,hks':Q9 ks=ks',hxs:Q0 l=xs
 generalize hT:Q8 p tys (Q5J p) _ _ _ _=T
 cbv at hT
 subst hT
 simp only[Tree.ok,Q4,S0]
 subst hp hks' hxs
 refine⟨Qc0 _ (by simpa[Q9] using hks),?_⟩
 obtain⟨n,hn⟩:=QX ks
 refine Q1P (cs:=Q5J std) (by kernel_rfl) (X:=Int) (fun i=>⟨[(0,.box 0 0),(8,.box 2 0),(9,.val (.bool false)),(18,.slc 1 (Q9 ks)),(19,.val (.int .i64 n)),(20,.val (.int .i64 i))],[.box [.row 1 0],.row 182 6 false 0 (Q0 l),.box [.val (.int .i64 kind),.val (.int .i64 (Q1l l (ks.take i.toNat))),.val (.int .i64 (cnt l (ks.take i.toNat))),.val (.bool false),.val (.slice none 0 0),.slc 1 (Q9 ks)]]⟩) (fun i=>0≤i∧i≤n) (fun i=>(n-i).toNat) 0 ?_ ?_ ?_
 ·have:=hn.eq
  omega
 ·exact⟨[some 0,some 1,some 2],_,rfl,by simp[Qh,lk,Q1l,cnt,std,Q9,hn.eq]⟩
 ·rintro i ⟨hi1,hi2⟩
  have en:=hn.eq
  have hks':=Q2h ks
  have hls:=QT l
  rcases Int.lt_or_eq_of_le hi2 with hlt|heq
  ·have hat:=Q2K (l:=ks) hi1 (en ▸ hlt)
   have hmem:ks[i.toNat]?.getD 0∈ks:=by
    have:i.toNat<ks.length:=by omega
    simp[this]
   have ht:ks.take (i+1).toNat=ks.take i.toNat++[ks[i.toNat]?.getD 0]:=by
    have:i.toNat<ks.length:=by omega
    rw[show (i+1).toNat=i.toNat+1 by omega,List.take_add_one]
    simp[this]
   have hW2:Q1l l (ks.take (i+1).toNat)=Q1l l (ks.take i.toNat)+QJ l (ks[i.toNat]?.getD 0):=by rw[ht];simp[Q1l]
   have hC2:cnt l (ks.take (i+1).toNat)=min (cnt l (ks.take i.toNat)+Q1L l (ks[i.toNat]?.getD 0)) 2147483647:=by rw[ht];simp[cnt,List.foldl_append]
   obtain⟨hk0,hk1⟩:=hin _ hmem
   obtain⟨k,hk⟩:=exq (ks[i.toNat]?.getD 0)
   rw[←hk] at hat hW2 hC2 hk0 hk1
   have hnd:=Q6Q hk0 hk1
   have hWl:Q1l l (ks.take i.toNat)+QJ l k≤2147483647:=by
    rw[←hW2]
    exact Int.le_trans (Q7K hw _ _) hsum
   have hW0:0≤Q1l l (ks.take i.toNat):=Q4g hw _
   have hC0:=Q78 hc (ks.take i.toNat)
   have hwk:=hw k
   have hck:=hc k
   simp only[QJ,Q1L] at hW2 hC2 hWl hwk hck
   obtain⟨W,hW⟩:=exq (Q1l l (ks.take i.toNat))
   obtain⟨C,hC⟩:=exq (cnt l (ks.take i.toNat))
   rw[←hW] at hW2 hWl hW0 ⊢
   rw[←hC] at hC2 hC0 ⊢
   clear en
   generalize hp:std=p,hkv:Q9 ks=kv,hxs:Q0 l=xs
   generalize hT:Q8 p tys (Q5J p) _ _ _ _=T
   cbv at hT
   subst hT
   simp only[Tree.ok,Q4,S0]
   subst hp hkv hxs
   have en:=hn.eq
   replace hk1:k<(l.length:Int):=hk1
   repeat' first
    |(with_reducible refine And.intro (fun hx=>absurd hx (by first|(try simp[std,S1,hat,hks',hls,hnd,hk0,hk1,Node.av,hlt])<;>omega|omega)) (fun _=>?_))
    |(with_reducible refine And.intro (fun _=>?_) (fun hx=>absurd hx (by first|(try simp[std,S1,hat,hks',hls,hnd,hk0,hk1,Node.av,hlt])<;>omega|omega)))
    |(with_reducible refine And.intro (by first|(try simp[std,S1,hat,hks',hls,hnd,hk0,hk1,Node.av,hlt])<;>omega|omega) ?_)
    |(with_reducible refine And.intro ?_ ?_)
    |(with_reducible intro hb)
   all_goals exact⟨i+1,⟨by omega,by omega⟩,by omega,[some 0,some 1,some 2],_,rfl,by simp[Qh,lk,std,hat,hnd,Node.av,AV.cells,Qg,hW2,hC2];omega⟩
  ·have ht:ks.take i.toNat=ks:=List.take_of_length_le (by omega)
   rw[ht]
   have hW0:=Q4g hw ks
   have hC0:=Q78 hc ks
   have hB:QM l kind ks=⟨kind,Q1l l ks,cnt l ks,false,[],ks⟩:=rfl
   obtain⟨W,hW⟩:=exq (Q1l l ks)
   obtain⟨C,hC⟩:=exq (cnt l ks)
   rw[←hW] at hW0 hB ⊢
   rw[←hC] at hC0 hB ⊢
   clear en
   generalize hp:std=p,hkv:Q9 ks=kv,hxs:Q0 l=xs
   generalize hT:Q8 p tys (Q5J p) _ _ _ _=T
   cbv at hT
   subst hT
   simp only[Tree.ok,Q4,S0]
   subst hp hkv hxs
   repeat' first
    |(with_reducible refine And.intro (fun hx=>absurd hx (by first|(try simp[std,S1,heq])<;>omega|omega)) (fun _=>?_))
    |(with_reducible refine And.intro (fun _=>?_) (fun hx=>absurd hx (by first|(try simp[std,S1,heq])<;>omega|omega)))
    |(with_reducible refine And.intro (by first|(try simp[std,S1,heq])<;>omega|omega) ?_)
    |(with_reducible refine And.intro ?_ ?_)
    |(with_reducible intro hb)
   rw[if_pos trivial]
   generalize hBv:QM l kind ks=B at hB ⊢
   generalize hp:std=p,hkv:Q9 ks=kv,hxs:Q0 l=xs
   generalize hT:Q8 p tys (Q5J p) _ _ _ _=T
   cbv at hT
   subst hT
   simp only[Tree.ok,Q4,S0]
   subst hp hkv hxs
   refine⟨?_,[some 0,some 1],.tup [.val (.int .i64 l.length),.val (.int .i64 0)],_,rfl,rfl,Nat.le_refl _,rfl,?_,?_⟩
   ·exact (QjG (Q0 l) (by simpa[Q0] using hl) kind W C false [] (Q9 ks)).le ⟨.inl rfl,⟨.inl rfl,.inl rfl,.inl rfl,.inl rfl,.inr (.inl ⟨rfl,_,rfl⟩),.inl rfl,trivial⟩,trivial⟩
   ·simp[Qh,std,hls,Q0,hB,Node.av,Q5,Q9]
   ·exact⟨.inl rfl,.inl rfl,trivial⟩
def Wf (l:List Node):Prop:=∀ n:Int,0≤n→n<l.length→∀ k∈(Qe l n).kids,0≤k∧k<n
def prF (l:List Node):Nat→Int→List UInt8
 |0,_=>[]
 |f+1,n=>(Qe l n).b++(Qe l n).kids.flatMap (prF l f)
def pr (l:List Node)(n:Int):List UInt8:=prF l (n.toNat+1) n
def coF (l:List Node):Nat→Int→Nat
 |0,_=>1
 |f+1,n=>1+((Qe l n).kids.map (coF l f)).sum
def co (l:List Node)(n:Int):Nat:=coF l (n.toNat+1) n
theorem Qcj {l:List Node}(hw:Wf l):∀ (f f':Nat) (n:Int),0≤n→n<l.length→n.toNat<f→n.toNat<f'→prF l f n=prF l f' n
 |0,_,_,_,_,h,_=>by omega
 |_+1,0,_,_,_,_,h=>by omega
 |f+1,f'+1,n,h0,h1,h2,h3=>by
  simp only[prF]
  congr 1
  refine congrArg List.flatten (List.map_congr_left fun k hk=>?_)
  have:=hw n h0 h1 k hk
  exact Qcj hw f f' k this.1 (by omega) (by omega) (by omega)
theorem Qen {l:List Node}(hw:Wf l){n:Int}(h0:0≤n)(h1:n<l.length):pr l n=(Qe l n).b++(Qe l n).kids.flatMap (pr l):=by
 show prF l (n.toNat+1) n=_
 simp only[prF]
 congr 1
 refine congrArg List.flatten (List.map_congr_left fun k hk=>?_)
 have:=hw n h0 h1 k hk
 exact Qcj hw _ _ k this.1 (by omega) (by omega) (by omega)
theorem Qbo {l:List Node}(hw:Wf l):∀ (f f':Nat) (n:Int),0≤n→n<l.length→n.toNat<f→n.toNat<f'→coF l f n=coF l f' n
 |0,_,_,_,_,h,_=>by omega
 |_+1,0,_,_,_,_,h=>by omega
 |f+1,f'+1,n,h0,h1,h2,h3=>by
  simp only[coF]
  congr 2
  refine List.map_congr_left fun k hk=>?_
  have:=hw n h0 h1 k hk
  exact Qbo hw f f' k this.1 (by omega) (by omega) (by omega)
theorem Q9v {l:List Node}(hw:Wf l){n:Int}(h0:0≤n)(h1:n<l.length):co l n=1+((Qe l n).kids.map (co l)).sum:=by
 show coF l (n.toNat+1) n=_
 simp only[coF]
 congr 2
 refine List.map_congr_left fun k hk=>?_
 have:=hw n h0 h1 k hk
 exact Qbo hw _ _ k this.1 (by omega) (by omega) (by omega)
def Qfr (l:List Node):Prop:=∀ n:Int,0≤n→n<l.length→(Qe l n).width=(pr l n).length
def Qbn (len:List AV→Int):Nat→List AV→List Ob→Option (AV×List Ob):=QhQ len
def prS (l:List Node)(st:List Int):List UInt8:=st.reverse.flatMap (pr l)
def coS (l:List Node)(st:List Int):Nat:=(st.map (co l)).sum
def kS (l:List Node)(ks:List Int):List Int:=(ks.filter fun k=>decide (0<QJ l k)).reverse
theorem QcK (l:List Node)(n:Int):1≤co l n:=by
 show 1≤coF l (n.toNat+1) n
 simp only[coF];omega
theorem Qe1 {l:List Node}(st:List Int):st.length≤coS l st:=by
 induction st with
 |nil=>simp[coS]
 |cons k r ih=>have:=QcK l k;simp only[coS,List.map_cons,List.sum_cons,List.length_cons] at ih ⊢;omega
theorem Qjo (l:List Node)(hl:l.length≤1000000000)(hw:Wf l)(hwd:Qfr l)(n:Int)(h0:0≤n)(h1:n<l.length)(hp:(pr l n).length≤1000000)(hc:co l n≤1000000) :
  BCall prog 59 [.ref [.slc 6 (Q0 l)],.val (.int .i64 n)] [] (.slc 1 (Q5 (pr l n))) []:=by
 obtain⟨m,hm⟩:=QX l
 have h1m:n<m:=by rw[hm.eq];exact h1
 refine fnN (cs:=Qbn Q3X) func59 rfl (by kernel_rfl) ?_
 intro w0 g0
 clear h1
 generalize hp:std=p,hlen:Q3X=len,hxs:Q0 l=xs
 generalize hT:Q8 p tys (Qbn len) _ _ _ _=T
 cbv at hT
 subst hT
 simp only[Tree.ok,Q4,S0]
 subst hp hlen hxs
 have em:=hm.eq
 repeat' first
  |(with_reducible refine And.intro (fun hx=>absurd hx (by first|(try simp[std,S1,Q3X,QT l,h0,Q9E l])<;>omega|omega)) (fun _=>?_))
  |(with_reducible refine And.intro (fun _=>?_) (fun hx=>absurd hx (by first|(try simp[std,S1,Q3X,QT l,h0,Q9E l])<;>omega|omega)))
  |(with_reducible refine And.intro (by first|(try simp[std,S1,Q3X,QT l,h0,Q9E l])<;>omega|omega) ?_)
  |(with_reducible refine And.intro ?_ ?_)
  |(with_reducible intro hb)
 ·exact Q9E l
 refine Q1P (cs:=Qbn Q3X) (by kernel_rfl) (X:=List UInt8×List Int) (fun x=>⟨[(0,.ref [.slc 6 (Q0 l)]),(5,.row 0 0),(6,.row 1 0)],[.row 5 1 false 0 (Q5 x.1),.row 3 1 false 0 (Q9 x.2)]⟩) (fun x=>x.1++prS l x.2=pr l n∧(∀ k∈x.2,0≤k∧k<m)∧coS l x.2≤1000000) (fun x=>coS l x.2) ([],[n]) ?_ ?_ ?_
 ·exact⟨by simp[prS],by simp[h0,h1m],by simpa[coS] using hc⟩
 ·exact⟨[none,some 0],_,rfl,by simp[Qh,lk,Q5,Q9,Qd7]⟩
 ·rintro⟨out,st⟩ ⟨hJ1,hJ2,hJ3⟩
  simp only at hJ1 hJ2 hJ3
  rcases List.eq_nil_or_concat st with rfl|⟨st',k,rfl⟩
  ·generalize hp:std=p,hlen:Q3X=len,hxs:Q0 l=xs,ho:Q5 out=o
   generalize hT:Q8 p tys (Qbn len) _ _ _ _=T
   cbv at hT
   subst hT
   simp only[Tree.ok,Q4,S0]
   subst hp hlen hxs ho
   repeat' first
    |(with_reducible refine And.intro (fun hx=>absurd hx (by first|(try simp[std,S1,Q9])<;>omega|omega)) (fun _=>?_))
    |(with_reducible refine And.intro (fun _=>?_) (fun hx=>absurd hx (by first|(try simp[std,S1,Q9])<;>omega|omega)))
    |(with_reducible refine And.intro (by first|(try simp[std,S1,Q9])<;>omega|omega) ?_)
    |(with_reducible refine And.intro ?_ ?_)
    |(with_reducible intro hb)
   rw[if_pos trivial]
   generalize hp:std=p,hxs:Q0 l=xs,ho:Q5 out=o
   generalize hT:Q8 p tys (QhQ _) _ _ _ _=T
   cbv at hT
   subst hT
   simp only[Tree.ok,Q4,S0]
   subst hp hxs ho
   refine .pure rfl (.inl ?_)
   rw[←hJ1];simp[prS]
  ·rw[List.concat_eq_append] at hJ1 hJ2 hJ3 ⊢
   obtain⟨hk0,hkm⟩:=hJ2 k (by simp)
   have hk1:k<(l.length:Int):=by omega
   have hnd:=Q6Q hk0 hk1
   have hss:(Q9 (st'++[k])).length=st'.length+1:=by simp[Q9]
   have hat:(Q9 (st'++[k]))[st'.length]?.getD .dead=.val (.int .i64 k):=by simp[Q9,Qd7]
   have hat2:∀ h:st'.length<(Q9 (st'++[k])).length,(Q9 (st'++[k]))[st'.length]'h=.val (.int .i64 k):=fun h=>by simp[Q9,Qd7]
   have hcut:(Q9 (st'++[k])).take st'.length=Q9 st':=by
    rw[show Q9 (st'++[k])=Q9 st'++[Qd7 k] by simp[Q9]]
    exact List.take_left' (by simp[Q9])
   have hls:=QT l
   have hpk:=Qen hw hk0 hk1
   have hck:=Q9v hw hk0 hk1
   have hpr:pr l n=out++((Qe l k).b++((Qe l k).kids.flatMap (pr l)++prS l st')):=by
    rw[←hJ1,prS,List.reverse_append,List.flatMap_append]
    simp[hpk,prS,List.append_assoc]
   have hkin:∀ j∈(Qe l k).kids,0≤j∧j<m:=fun j hj=>by
    have:=hw k hk0 hk1 j hj
    exact⟨this.1,by omega⟩
   have hco:coS l st'+(1+((Qe l k).kids.map (co l)).sum)≤1000000:=by
    rw[coS,List.map_append,List.sum_append] at hJ3
    simpa[coS,hck] using hJ3
   have hco2:coS l (st'++[k])=coS l st'+(1+((Qe l k).kids.map (co l)).sum):=by
    rw[coS,List.map_append,List.sum_append]
    simp[coS,hck]
   have hob:out.length+(Qe l k).b.length≤1000000:=by
    have:=congrArg List.length hpr
    simp only[List.length_append] at this
    omega
   have hsl:=Qe1 (l:=l) st'
   have hkl:(Qe l k).kids.length≤((Qe l k).kids.map (co l)).sum:=Qe1 (Qe l k).kids
   obtain⟨nd,hndE⟩:=exq (Qe l k)
   rw[←hndE] at hnd hpr hkin hco hco2 hob hkl
   have hbl:=Q1A nd.b
   have hol:=Q1A out
   have hkid:=Q2h nd.kids
   clear em
   generalize hp:std=p,hlen:Q3X=len,hxs:Q0 l=xs,ho:Q5 out=o,hss:Q9 (st'++[k])=ss
   generalize hT:Q8 p tys (Qbn len) _ _ _ _=T
   cbv at hT
   subst hT
   simp only[Tree.ok,Q4,S0]
   subst hp hlen hxs ho hss
   have em:=hm.eq
   repeat' first
    |(with_reducible refine And.intro (fun hx=>absurd hx (by first|(try simp[std,S1,hss,hat,hat2,hcut,hls,hnd,Node.av,hk0,hk1,hbl,hol,hkid])<;>omega|omega)) (fun _=>?_))
    |(with_reducible refine And.intro (fun _=>?_) (fun hx=>absurd hx (by first|(try simp[std,S1,hss,hat,hat2,hcut,hls,hnd,Node.av,hk0,hk1,hbl,hol,hkid])<;>omega|omega)))
    |(with_reducible refine And.intro (by first|(try simp[std,S1,hss,hat,hat2,hcut,hls,hnd,Node.av,hk0,hk1,hbl,hol,hkid])<;>omega|omega) ?_)
    |(with_reducible refine And.intro ?_ ?_)
    |(with_reducible intro hb)
   obtain⟨nk,hnk⟩:=QX nd.kids
   refine Q1P (cs:=Qbn Q3X) (by kernel_rfl) (X:=Int) (fun j=>⟨[(0,.ref [.slc 6 (Q0 l)]),(5,.row 0 0),(6,.row 1 0),(7,.box 2 0),(8,.val (.int .i64 j))],[.row 5 1 false 0 (Q5 (out++nd.b)),.row 3 1 false 0 (Q9 (st'++kS l (nd.kids.drop (j+1).toNat))),.box [.val (.int .i64 nd.kind),.val (.int .i64 nd.width),.val (.int .i64 nd.count),.val (.bool nd.leaf),.slc 1 (Q5 nd.b),.slc 1 (Q9 nd.kids)]]⟩) (fun j=>-1≤j∧j<nk) (fun j=>(j+1).toNat) (nk-1) ?_ ?_ ?_
   ·have:=hnk.eq
    omega
   ·have en:=hnk.eq
    refine⟨[some 0,some 1,some 2],_,rfl,?_⟩
    have e1:nd.kids.drop (nk-1+1).toNat=[]:=List.drop_eq_nil_of_le (by omega)
    simp[Qh,lk,std,hss,hat,hat2,hcut,hls,hnd,Node.av,AV.cells,Qg,Q53,Q1O,hk0,hk1,hkid,en,e1]
    exact⟨by simp[Q5],by simp[kS]⟩
   ·rintro j ⟨hj1,hj2⟩
    have en:=hnk.eq
    rcases Int.lt_or_eq_of_le hj1 with hlt|heq
    ·have hj0:0≤j:=by omega
     have hjk:j.toNat<nd.kids.length:=by omega
     have hat:=Q2K (l:=nd.kids) hj0 (by omega)
     have hdrop:nd.kids.drop j.toNat=nd.kids[j.toNat]?.getD 0::nd.kids.drop (j+1).toNat:=by
      rw[List.drop_eq_getElem_cons hjk,show (j+1).toNat=j.toNat+1 by omega]
      simp[hjk]
     have hq:=hkin (nd.kids[j.toNat]?.getD 0) (by simp[hjk])
     obtain⟨q,hqE⟩:=exq (nd.kids[j.toNat]?.getD 0)
     rw[←hqE] at hat hdrop hq
     have hq1:q<(l.length:Int):=by omega
     have hnq:=Q6Q hq.1 hq1
     have hkS:kS l (nd.kids.drop j.toNat)=kS l (nd.kids.drop (j+1).toNat)++(if 0<(Qe l q).width then [q] else []):=by
      rw[hdrop,kS,List.filter_cons]
      by_cases h:0<QJ l q
      ·have h':0<(Qe l q).width:=h
       simp[h,h',kS]
      ·have h':¬ 0<(Qe l q).width:=h
       simp[h,h',kS]
     have hsl2:(st'++kS l (nd.kids.drop (j+1).toNat)).length≤1000000:=by
      have h1:(kS l (nd.kids.drop (j+1).toNat)).length≤nd.kids.length:=by
       rw[kS,List.length_reverse]
       refine Nat.le_trans (List.length_filter_le _ _) ?_
       rw[List.length_drop];omega
      rw[List.length_append];omega
     have hol2:=Q1A (out++nd.b)
     have hil2:=Q2h (st'++kS l (nd.kids.drop (j+1).toNat))
     obtain⟨st2,hst2⟩:=exq (st'++kS l (nd.kids.drop (j+1).toNat))
     rw[←hst2] at hsl2 hil2 ⊢
     obtain⟨out2,hout2⟩:=exq (out++nd.b)
     rw[←hout2] at hol2 ⊢
     clear en em
     generalize hp:std=p,hlen:Q3X=len,hxs:Q0 l=xs,ho:Q5 out2=o,hss:Q9 st2=ss,hbb:Q5 nd.b=bb,hkk:Q9 nd.kids=kk
     generalize hT:Q8 p tys (Qbn len) _ _ _ _=T
     cbv at hT
     subst hT
     simp only[Tree.ok,Q4,S0]
     subst hp hlen hxs ho hss hbb hkk
     have em:=hm.eq
     have en:=hnk.eq
     replace hq1:q<(l.length:Int):=hq1
     repeat' first
      |(with_reducible refine And.intro (fun hx=>absurd hx (by first|(try simp[std,S1,hat,hls,hnq,Node.av,hq.1,hq1,hj0,hkid,hil2])<;>omega|omega)) (fun _=>?_))
      |(with_reducible refine And.intro (fun _=>?_) (fun hx=>absurd hx (by first|(try simp[std,S1,hat,hls,hnq,Node.av,hq.1,hq1,hj0,hkid,hil2])<;>omega|omega)))
      |(with_reducible refine And.intro (by first|(try simp[std,S1,hat,hls,hnq,Node.av,hq.1,hq1,hj0,hkid,hil2])<;>omega|omega) ?_)
      |(with_reducible refine And.intro ?_ ?_)
      |(with_reducible intro hb)
     ·have hw0:0<(Qe l q).width:=by simpa[std,AV.cells,Qg,Q1O,hat,hls,hnq,Node.av,hq.1,hq1] using hb
      rw[if_pos hw0] at hkS
      refine⟨j-1,⟨by omega,by omega⟩,by omega,[some 0,some 1,some 2],_,rfl,?_⟩
      have e2:st'++kS l (nd.kids.drop (j-1+1).toNat)=st2++[q]:=by
       rw[show j-1+1=j by omega,hkS,←List.append_assoc,←hst2]
      rw[e2]
      simp[Qh,lk,std,AV.cells,Qg,Q1O,hat,hls,hnq,Node.av,hq.1,hq1,hout2,Q4N,Qbj]
     ·have hw0:¬ 0<(Qe l q).width:=by simpa[std,AV.cells,Qg,Q1O,hat,hls,hnq,Node.av,hq.1,hq1] using hb
      rw[if_neg hw0,List.append_nil] at hkS
      refine⟨j-1,⟨by omega,by omega⟩,by omega,[some 0,some 1,some 2],_,rfl,?_⟩
      have e2:st'++kS l (nd.kids.drop (j-1+1).toNat)=st2:=by
       rw[show j-1+1=j by omega,hkS,←hst2]
      rw[e2]
      simp[Qh,lk,std,AV.cells,Qg,Q1O,hat,hls,hnq,Node.av,hq.1,hq1,hout2]
    ·subst heq
     rw[show (-1+1:Int).toNat=0 from rfl,List.drop_zero]
     have hT1:(out++nd.b)++prS l (st'++kS l nd.kids)=pr l n:=by
      rw[hpr,prS,List.reverse_append,List.flatMap_append,prS]
      simp only[List.append_assoc]
      congr 2
      rw[kS,List.reverse_reverse]
      congr 1
      have key:∀ ks:List Int,(∀ q∈ks,0≤q∧q<m)→(ks.filter fun k=>decide (0<QJ l k)).flatMap (pr l)=ks.flatMap (pr l):=by
       intro ks
       induction ks with
       |nil=>intro _;rfl
       |cons q r ih =>
        intro h
        have hr:=ih (fun q hq=>h q (List.mem_cons_of_mem _ hq))
        rw[List.filter_cons,List.flatMap_cons,←hr]
        by_cases hq:0<QJ l q
        ·simp[hq]
        ·have h1:=h q (List.mem_cons_self ..)
         have h2:=hwd q h1.1 (by have:=hm.eq;omega)
         have h3:pr l q=[]:=by
          have:(pr l q).length=0:=by
           have h4:¬ 0<(Qe l q).width:=hq
           omega
          exact List.eq_nil_of_length_eq_zero this
         simp[hq,h3]
      exact key nd.kids hkin
     have hT2:∀ q∈st'++kS l nd.kids,0≤q∧q<m:=by
      intro q hq
      rcases List.mem_append.1 hq with h|h
      ·exact hJ2 q (List.mem_append_left _ h)
      ·rw[kS,List.mem_reverse] at h
       exact hkin q (List.mem_filter.1 h).1
     have hT3:coS l (st'++kS l nd.kids)<coS l (st'++[k]):=by
      rw[hco2,coS,List.map_append,List.sum_append]
      have h1:((kS l nd.kids).map (co l)).sum≤(nd.kids.map (co l)).sum:=by
       rw[kS,List.map_reverse,List.sum_reverse]
       generalize nd.kids=ks
       induction ks with
       |nil=>simp
       |cons q r ih =>
        rw[List.filter_cons]
        split<;>simp only[List.map_cons,List.sum_cons]<;>omega
      have h2:(st'.map (co l)).sum=coS l st':=rfl
      omega
     obtain⟨st2,hst2⟩:=exq (st'++kS l nd.kids)
     obtain⟨out2,hout2⟩:=exq (out++nd.b)
     rw[←hst2] at hT1 hT2 hT3 ⊢
     rw[←hout2] at hT1 ⊢
     clear en em
     generalize hp:std=p,hlen:Q3X=len,hxs:Q0 l=xs,ho:Q5 out2=o,hss:Q9 st2=ss,hbb:Q5 nd.b=bb,hkk:Q9 nd.kids=kk
     generalize hT:Q8 p tys (Qbn len) _ _ _ _=T
     cbv at hT
     subst hT
     simp only[Tree.ok,Q4,S0]
     subst hp hlen hxs ho hss hbb hkk
     repeat' first
      |(with_reducible refine And.intro (fun hx=>absurd hx (by first|(try simp[std,S1,hls])<;>omega|omega)) (fun _=>?_))
      |(with_reducible refine And.intro (fun _=>?_) (fun hx=>absurd hx (by first|(try simp[std,S1,hls])<;>omega|omega)))
      |(with_reducible refine And.intro (by first|(try simp[std,S1,hls])<;>omega|omega) ?_)
      |(with_reducible refine And.intro ?_ ?_)
      |(with_reducible intro hb)
     rw[if_pos trivial]
     refine⟨(out2,st2),⟨hT1,hT2,by simp only;omega⟩,hT3,[some 0,some 1],_,rfl,?_⟩
     simp[Qh,lk]
def Q1D (s t:ByteArray):Bool:=decide (t.size≤s.size)&&(s.data.toList.take t.size == t.data.toList)
theorem QiB {s t:ByteArray}(h:t.size≤s.size):std.eqS (std.cutS s 0 (std.szS t)) t=Q1D s t:=by
 simp only[std,Q1D,h,decide_true,Bool.true_and,ByteArray.toList_eq]
 rw[show (0:Int).toNat=0 from rfl,Int.toNat_natCast,extract_from_zero]
theorem QjD (s t:ByteArray):BCall prog 173 [.val (.string s),.val (.string t)] [] (.val (.bool (Q1D s t))) []:=by
 refine fnN (cs:=cs0) func173 rfl (by kernel_rfl) ?_
 intro w0 g0
 generalize hp:std=p
 generalize hT:Q8 p tys (cs0) _ _ _ _=T
 cbv at hT
 subst hT
 simp only[Tree.ok,Q4,S0]
 subst hp
 refine⟨fun h=>⟨?_,.pure rfl (.inl ?_)⟩,fun h=>.pure rfl (.inl ?_)⟩
 ·have h:t.size≤s.size:=by simpa[std] using h
  simp[std];omega
 ·have h:t.size≤s.size:=by simpa[std] using h
  show AV.val (.bool (std.eqS (std.cutS s 0 (std.szS t)) t))=_
  rw[QiB h]
 ·have h:¬ t.size≤s.size:=by simpa[std] using h
  simp[Q1D,h]
def Q4y (pre:ByteArray→ByteArray→Bool):Nat→List AV→List Ob→Option (AV×List Ob):=fun f args _=>match f,args with
 |173,[.val (.string s),.val (.string t)]=>some (.val (.bool (pre s t)),[])
 |132,[.val (.string s),.val (.string t)]=>some (.val (.bool (pre s t)),[])
 |_,_=>none
theorem Qgl (s t:ByteArray):BCall prog 132 [.val (.string s),.val (.string t)] [] (.val (.bool (Q1D s t))) []:=by
 refine fnN (cs:=Q4y Q1D) func132 rfl (by kernel_rfl) ?_
 intro w0 g0
 generalize hp:std=p,hpre:Q1D=pre
 generalize hT:Q8 p tys (Q4y pre) _ _ _ _=T
 cbv at hT
 subst hT
 simp only[Tree.ok,Q4,S0]
 subst hp hpre
 exact⟨QjD s t,.pure rfl (.inl rfl)⟩
def signsL:List (List UInt8×Int×Int):=[([254,255],1,2),([255,254],2,2),([239,187,191],0,3),([0,60,0,63],1,0),([60,0,63,0],2,0)]
def kR (pre:List UInt8→Bool)(k:Nat):Int×Int:=match (signsL.drop k).find? (fun x=>pre x.1) with
 |some x=>x.2
 |none=>(0,0)
def QI (b:List UInt8):Int×Int:=kR (fun t=>t.isPrefixOf b) 0
theorem Q32 (l:List UInt8):(Q5 l).map Q2p=l:=by
 induction l with
 |nil=>rfl
 |cons x r ih=>rw[Q5,List.map_cons,List.map_cons];rw[Q5] at ih;rw[ih];simp[Q4z,Q2p]
theorem QcU (l:List UInt8):std.isB (Q5 l):=fun x hx=>by
 obtain⟨n,_,rfl⟩:=List.mem_map.1 hx
 exact⟨n,rfl⟩
theorem Qhh (b t:List UInt8)(h:t.length≤4):Q1D ⟨(b.take 4).toArray⟩ ⟨t.toArray⟩=t.isPrefixOf b:=by
 have e:Q1D ⟨(b.take 4).toArray⟩ ⟨t.toArray⟩=(decide (t.length≤(b.take 4).length)&&((b.take 4).take t.length == t)):=rfl
 rw[e,Bool.eq_iff_iff,List.isPrefixOf_iff_prefix,List.prefix_iff_eq_take]
 simp only[List.take_take,List.length_take,Bool.and_eq_true,decide_eq_true_eq,beq_iff_eq,Nat.min_eq_left h]
 constructor
 ·exact fun h=>h.2.symm
 ·intro h1
  have:t.length≤b.length:=by
   have:=congrArg List.length h1
   rw[List.length_take] at this
   omega
  exact⟨by omega,h1.symm⟩
theorem Qjq (b:List UInt8):BCall prog 84 [.slc 1 (Q5 b)] [] (.tup [.val (.int .i64 (QI b).1),.val (.int .i64 (QI b).2)]) []:=by
 refine fnN (cs:=Q4y Q1D) func84 rfl (by kernel_rfl) ?_
 intro w0 g0
 generalize hp:std=p,hpre:Q1D=pre,hbs:Q5 b=bs
 generalize hT:Q8 p tys (Q4y pre) _ _ _ _=T
 cbv at hT
 subst hT
 simp only[Tree.ok,Q4,S0]
 subst hp hpre hbs
 have hbl:=Q1A b
 have hmin:std.minI (std.len (Q5 b)) 4=if 4<(b.length:Int) then 4 else (b.length:Int):=by simp only[std,hbl]
 have hcut:std.cut (Q5 b) 0 (std.minI (std.len (Q5 b)) 4)=Q5 (b.take 4):=by
  rw[hmin]
  show ((Q5 b).drop (0:Int).toNat).take _=_
  rw[show (0:Int).toNat=0 from rfl,List.drop_zero,Q5,Q5,List.map_take]
  split
  ·rfl
  ·have:b.length≤4:=by omega
   rw[List.take_of_length_le (by simp),List.take_of_length_le (by simpa using this)]
 refine⟨?_,?_,?_⟩
 ·simp only[std,hbl]
  split<;>omega
 ·show std.isB (std.cut (Q5 b) 0 (std.minI (std.len (Q5 b)) 4))
  rw[hcut];exact QcU _
 have hstr:std.strB (std.cut (Q5 b) 0 (std.minI (std.len (Q5 b)) 4))=⟨(b.take 4).toArray⟩:=by
  rw[hcut]
  show (⟨((Q5 (b.take 4)).map Q2p).toArray⟩:ByteArray)=_
  rw[Q32]
 obtain⟨s,hs⟩:=exq (⟨(b.take 4).toArray⟩:ByteArray)
 have hpre:∀ t:List UInt8,t.length≤4→t.isPrefixOf b=Q1D s ⟨t.toArray⟩:=fun t h=>by rw[hs,Qhh b t h]
 have hR:QI b=kR (fun t=>Q1D s ⟨t.toArray⟩) 0:=by
  simp[QI,kR,signsL,List.find?,hpre [254,255] (by decide),hpre [255,254] (by decide),hpre [239,187,191] (by decide),hpre [0,60,0,63] (by decide),hpre [60,0,63,0] (by decide)]
 rw[hR]
 obtain⟨R,hRE⟩:=exq (kR (fun t=>Q1D s ⟨t.toArray⟩) 0)
 rw[←hRE]
 obtain⟨R1,R2⟩:=R
 refine Q1P (cs:=Q4y Q1D) (by kernel_rfl) (X:=Int) (fun k=>⟨[(5,.val (.string s)),(20,.agg [.val (.string ⟨#[254,255]⟩),.val (.int .i64 1),.val (.int .i64 2),.val (.string ⟨#[255,254]⟩),.val (.int .i64 2),.val (.int .i64 2),.val (.string ⟨#[239,187,191]⟩),.val (.int .i64 0),.val (.int .i64 3),.val (.string ⟨#[0,60,0,63]⟩),.val (.int .i64 1),.val (.int .i64 0),.val (.string ⟨#[60,0,63,0]⟩),.val (.int .i64 2),.val (.int .i64 0)]),(21,.val (.int .i64 k))],[]⟩) (fun k=>0≤k∧k≤5∧(R1,R2)=kR (fun t=>Q1D s ⟨t.toArray⟩) k.toNat) (fun k=>(5-k).toNat) 0 ?_ ?_ ?_
 ·exact⟨by omega,by omega,hRE⟩
 ·refine⟨[],_,rfl,?_,?_⟩
  ·show AV.val (.string (std.strB (std.cut (Q5 b) 0 (std.minI (std.len (Q5 b)) 4))))=.val (.string s)
   rw[hstr,←hs]
  ·repeat first|exact trivial|refine⟨rfl,?_⟩
 ·rintro k ⟨hk0,hk5,hk⟩
  have hcs:k=0∨k=1∨k=2∨k=3∨k=4∨k=5:=by omega
  clear hR hpre hRE hstr hcut hbl hs hmin
  rcases hcs with rfl|rfl|rfl|rfl|rfl|rfl
  ·generalize hp:std=p,hpre:Q1D=pre
   generalize hT:Q8 p tys (Q4y pre) _ _ _ _=T
   cbv at hT
   subst hT
   simp only[Tree.ok,Q4,S0]
   subst hp hpre
   repeat' first
    |(with_reducible refine And.intro (fun hx=>absurd hx (by first|(try simp[std,S1,hk])<;>omega|omega)) (fun _=>?_))
    |(with_reducible refine And.intro (fun _=>?_) (fun hx=>absurd hx (by first|(try simp[std,S1,hk])<;>omega|omega)))
    |(with_reducible refine And.intro (by first|(try simp[std,S1,hk])<;>omega|omega) ?_)
    |(with_reducible refine And.intro ?_ ?_)
    |(with_reducible intro hb)
   ·exact Qgl _ _
   ·generalize hp:std=p,hpre:Q1D=pre
    generalize hT:Q5B p tys _ _ _ _=T
    cbv at hT
    subst hT
    simp only[Tree.ok,Q4,S0]
    subst hp hpre
    simp[kR,signsL,List.find?,hb] at hk
    exact .pure rfl ⟨.inl (by rw[hk.1]),.inl (by rw[hk.2]),trivial⟩
   ·refine⟨1,⟨by omega,by omega,?_⟩,by omega,[],_,rfl,?_⟩
    ·rw[hk]
     simp only[kR,signsL,Int.reduceToNat,List.drop_succ_cons,List.drop_zero,List.find?_cons,hb]
    ·simp[Qh,lk,std]
  ·generalize hp:std=p,hpre:Q1D=pre
   generalize hT:Q8 p tys (Q4y pre) _ _ _ _=T
   cbv at hT
   subst hT
   simp only[Tree.ok,Q4,S0]
   subst hp hpre
   repeat' first
    |(with_reducible refine And.intro (fun hx=>absurd hx (by first|(try simp[std,S1,hk])<;>omega|omega)) (fun _=>?_))
    |(with_reducible refine And.intro (fun _=>?_) (fun hx=>absurd hx (by first|(try simp[std,S1,hk])<;>omega|omega)))
    |(with_reducible refine And.intro (by first|(try simp[std,S1,hk])<;>omega|omega) ?_)
    |(with_reducible refine And.intro ?_ ?_)
    |(with_reducible intro hb)
   ·exact Qgl _ _
   ·generalize hp:std=p,hpre:Q1D=pre
    generalize hT:Q5B p tys _ _ _ _=T
    cbv at hT
    subst hT
    simp only[Tree.ok,Q4,S0]
    subst hp hpre
    simp[kR,signsL,List.find?,hb] at hk
    exact .pure rfl ⟨.inl (by rw[hk.1]),.inl (by rw[hk.2]),trivial⟩
   ·refine⟨2,⟨by omega,by omega,?_⟩,by omega,[],_,rfl,?_⟩
    ·rw[hk]
     simp only[kR,signsL,Int.reduceToNat,List.drop_succ_cons,List.drop_zero,List.find?_cons,hb]
    ·simp[Qh,lk,std]
  ·generalize hp:std=p,hpre:Q1D=pre
   generalize hT:Q8 p tys (Q4y pre) _ _ _ _=T
   cbv at hT
   subst hT
   simp only[Tree.ok,Q4,S0]
   subst hp hpre
   repeat' first
    |(with_reducible refine And.intro (fun hx=>absurd hx (by first|(try simp[std,S1,hk])<;>omega|omega)) (fun _=>?_))
    |(with_reducible refine And.intro (fun _=>?_) (fun hx=>absurd hx (by first|(try simp[std,S1,hk])<;>omega|omega)))
    |(with_reducible refine And.intro (by first|(try simp[std,S1,hk])<;>omega|omega) ?_)
    |(with_reducible refine And.intro ?_ ?_)
    |(with_reducible intro hb)
   ·exact Qgl _ _
   ·generalize hp:std=p,hpre:Q1D=pre
    generalize hT:Q5B p tys _ _ _ _=T
    cbv at hT
    subst hT
    simp only[Tree.ok,Q4,S0]
    subst hp hpre
    simp[kR,signsL,List.find?,hb] at hk
    exact .pure rfl ⟨.inl (by rw[hk.1]),.inl (by rw[hk.2]),trivial⟩
   ·refine⟨3,⟨by omega,by omega,?_⟩,by omega,[],_,rfl,?_⟩
    ·rw[hk]
     simp only[kR,signsL,Int.reduceToNat,List.drop_succ_cons,List.drop_zero,List.find?_cons,hb]
    ·simp[Qh,lk,std]
  ·generalize hp:std=p,hpre:Q1D=pre
   generalize hT:Q8 p tys (Q4y pre) _ _ _ _=T
   cbv at hT
   subst hT
   simp only[Tree.ok,Q4,S0]
   subst hp hpre
   repeat' first
    |(with_reducible refine And.intro (fun hx=>absurd hx (by first|(try simp[std,S1,hk])<;>omega|omega)) (fun _=>?_))
    |(with_reducible refine And.intro (fun _=>?_) (fun hx=>absurd hx (by first|(try simp[std,S1,hk])<;>omega|omega)))
    |(with_reducible refine And.intro (by first|(try simp[std,S1,hk])<;>omega|omega) ?_)
    |(with_reducible refine And.intro ?_ ?_)
    |(with_reducible intro hb)
   ·exact Qgl _ _
   ·generalize hp:std=p,hpre:Q1D=pre
    generalize hT:Q5B p tys _ _ _ _=T
    cbv at hT
    subst hT
    simp only[Tree.ok,Q4,S0]
    subst hp hpre
    simp[kR,signsL,List.find?,hb] at hk
    exact .pure rfl ⟨.inl (by rw[hk.1]),.inl (by rw[hk.2]),trivial⟩
   ·refine⟨4,⟨by omega,by omega,?_⟩,by omega,[],_,rfl,?_⟩
    ·rw[hk]
     simp only[kR,signsL,Int.reduceToNat,List.drop_succ_cons,List.drop_zero,List.find?_cons,hb]
    ·simp[Qh,lk,std]
  ·generalize hp:std=p,hpre:Q1D=pre
   generalize hT:Q8 p tys (Q4y pre) _ _ _ _=T
   cbv at hT
   subst hT
   simp only[Tree.ok,Q4,S0]
   subst hp hpre
   repeat' first
    |(with_reducible refine And.intro (fun hx=>absurd hx (by first|(try simp[std,S1,hk])<;>omega|omega)) (fun _=>?_))
    |(with_reducible refine And.intro (fun _=>?_) (fun hx=>absurd hx (by first|(try simp[std,S1,hk])<;>omega|omega)))
    |(with_reducible refine And.intro (by first|(try simp[std,S1,hk])<;>omega|omega) ?_)
    |(with_reducible refine And.intro ?_ ?_)
    |(with_reducible intro hb)
   ·exact Qgl _ _
   ·generalize hp:std=p,hpre:Q1D=pre
    generalize hT:Q5B p tys _ _ _ _=T
    cbv at hT
    subst hT
    simp only[Tree.ok,Q4,S0]
    subst hp hpre
    simp[kR,signsL,List.find?,hb] at hk
    exact .pure rfl ⟨.inl (by rw[hk.1]),.inl (by rw[hk.2]),trivial⟩
   ·refine⟨5,⟨by omega,by omega,?_⟩,by omega,[],_,rfl,?_⟩
    ·rw[hk]
     simp only[kR,signsL,Int.reduceToNat,List.drop_succ_cons,List.drop_zero,List.find?_cons,hb]
    ·simp[Qh,lk,std]
  ·generalize hp:std=p,hpre:Q1D=pre
   generalize hT:Q8 p tys (Q4y pre) _ _ _ _=T
   cbv at hT
   subst hT
   simp only[Tree.ok,Q4,S0]
   subst hp hpre
   repeat' first
    |(with_reducible refine And.intro (fun hx=>absurd hx (by first|(try simp[std,S1,hk])<;>omega|omega)) (fun _=>?_))
    |(with_reducible refine And.intro (fun _=>?_) (fun hx=>absurd hx (by first|(try simp[std,S1,hk])<;>omega|omega)))
    |(with_reducible refine And.intro (by first|(try simp[std,S1,hk])<;>omega|omega) ?_)
    |(with_reducible refine And.intro ?_ ?_)
    |(with_reducible intro hb)
   rw[if_pos trivial]
   generalize hp:std=p,hpre:Q1D=pre
   generalize hT:Q8 p tys (Q4y pre) _ _ _ _=T
   cbv at hT
   subst hT
   simp only[Tree.ok,Q4,S0]
   subst hp hpre
   simp[kR,signsL] at hk
   exact .pure rfl ⟨.inl (by rw[hk.1]),.inl (by rw[hk.2]),trivial⟩
def Q4x (l:List Int):Int:=if l.getD 0 0=34∨l.getD 0 0=39 then (match (l.drop 1).findIdx? (· == l.getD 0 0) with|some k=>k+2|none=>0) else 0
theorem Qf6 {l:List Int}{i:Int}(hq:l.getD 0 0=34∨l.getD 0 0=39)(h1:1≤i)(h2:i<l.length)(h3:∀ j:Int,1≤j→j<i→l.getD j.toNat 0≠l.getD 0 0)(h4:l.getD i.toNat 0=l.getD 0 0):Q4x l=i+1:=by
 have hk:i.toNat-1<(l.drop 1).length:=by simp;omega
 have e:(l.drop 1).findIdx? (· == l.getD 0 0)=some (i.toNat-1):=by
  rw[List.findIdx?_eq_some_iff_getElem]
  refine⟨hk,?_,fun j hj=>?_⟩
  ·have h5:1+(i.toNat-1)=i.toNat:=by omega
   have h6:i.toNat<l.length:=by omega
   simp only[List.getElem_drop,h5,beq_iff_eq]
   rw[←h4,List.getD_eq_getElem?_getD,List.getElem?_eq_getElem h6];rfl
  ·have h6:j+1<l.length:=by omega
   have h7:=h3 ((j+1:Nat):Int) (by omega) (by omega)
   rw[Int.toNat_natCast,List.getD_eq_getElem?_getD,List.getElem?_eq_getElem h6] at h7
   simpa[List.getElem_drop] using h7
 simp only[Q4x,if_pos hq,e]
 omega
theorem QcC {l:List Int}(h3:∀ j:Int,1≤j→j<l.length→l.getD j.toNat 0≠l.getD 0 0):Q4x l=0:=by
 have e:(l.drop 1).findIdx? (· == l.getD 0 0)=none:=by
  rw[List.findIdx?_eq_none_iff]
  intro x hx
  obtain⟨j,hj,rfl⟩:=List.mem_iff_getElem.1 hx
  have h6:j+1<l.length:=by simp at hj;omega
  have h7:=h3 ((j+1:Nat):Int) (by omega) (by omega)
  rw[Int.toNat_natCast,List.getD_eq_getElem?_getD,List.getElem?_eq_getElem h6] at h7
  simpa[List.getElem_drop] using h7
 simp only[Q4x,e]
 split<;>rfl
theorem QiD (l:List Int)(hl:l≠[])(hmax:l.length≤1000000000):BCall prog 184 [.slc 1 (Q1 l)] [] (.val (.int .i64 (Q4x l))) []:=by
 refine Qgq (cs:=cs0) (ord:=fun _=>.nil) Q6N (by kernel_rfl) func184 rfl (enters_of func184 (by kernel_rfl) rfl) (Nat.le_of_ble_eq_true rfl) (by kernel_rfl) (by kernel_rfl) ?_
 intro w0 g0
 generalize hp:std=p
 generalize hx:Q1 l=xs
 generalize hT:Q8 p tys cs0 _ _ _ _=T
 cbv at hT
 subst hT
 simp only[Tree.ok]
 subst hp hx
 have hpos:0<l.length:=List.length_pos_iff.2 hl
 have hlen:=Q13 l
 have a0:(Q1 l)[0]?.getD .dead=.val (.int .i32 (l[0]?.getD 0)):=Q3k (i:=0) (Int.le_refl 0) (by omega)
 refine⟨?_,?_,fun h1=>⟨?_,?_,fun h2=>.pure rfl (.inl ?_),fun h2=>?_⟩,fun h1=>?_⟩
 ·simp[std,hlen,hpos]
 ·simp[std,Q2H,a0,AV.cells,Qg]
 ·simp[std,hlen,hpos]
 ·simp[std,Q2H,a0,AV.cells,Qg]
 ·simp[std,a0,AV.cells,Qg] at h1 h2
  simp[Q4x,h1,h2]
 all_goals
  have hq:l.getD 0 0=34∨l.getD 0 0=39:=by
   first
    |(simp[std,a0,AV.cells,Qg] at h2;exact .inr h2)
    |(simp[std,a0,AV.cells,Qg] at h1;exact .inl h1)
  refine Q9u (cs:=cs0) (ord:=fun _=>.nil) Q6N (by kernel_rfl) (by kernel_rfl) (by kernel_rfl) (X:=Int) (fun i=>⟨[(0,.slc 1 (Q1 l)),(3,.val (.int .i64 i))],[]⟩)
   (fun i=>1≤i∧i≤l.length∧∀ j:Int,1≤j→j<i→l.getD j.toNat 0≠l.getD 0 0) (fun i=>(l.length-i).toNat) 1 ⟨by omega,by omega,fun j h1 h2=>by omega⟩ ⟨[],_,rfl,?_⟩ ?_
  ·exact⟨rfl,rfl,trivial⟩
  ·rintro i ⟨hi1,hi2,hi3⟩
   clear h1
   generalize hp:std=p
   generalize hx:Q1 l=xs
   generalize hT:Q8 p tys cs0 _ _ _ _=T
   cbv at hT
   subst hT
   simp only[Tree.ok,Q4]
   subst hp hx
   refine⟨fun h1=>?_,fun h1=>?_⟩
   ·have h1:i<l.length:=by simpa[std,hlen] using h1
    have ai:=Q3k (l:=l) (i:=i) (by omega) h1
    refine⟨?_,?_,?_,?_,fun h2=>⟨?_,?_⟩,fun h2=>⟨?_,i+1,⟨?_,?_,fun j h3 h4=>?_⟩,?_,[],_,rfl,?_⟩⟩
    ·simp[std,hlen];omega
    ·simp[std,Q2H,ai,AV.cells,Qg]
    ·simp[std,hlen,hpos]
    ·simp[std,Q2H,a0,AV.cells,Qg]
    ·show (-9223372036854775808:Int)≤_∧_≤(9223372036854775807:Int)
     simp[std];omega
    ·generalize hp:std=p
     generalize hx:Q1 l=xs
     generalize hT:Q5B p tys _ _ _ _=T
     cbv at hT
     subst hT
     subst hp hx
     refine FinOk.pure rfl (.inl ?_)
     have e:l.getD i.toNat 0=l.getD 0 0:=by simpa[std,ai,a0,AV.cells,Qg] using h2
     rw[Qf6 hq hi1 h1 hi3 e]
     rfl
    ·show (-9223372036854775808:Int)≤_∧_≤(9223372036854775807:Int)
     simp[std];omega
    ·show (1:Int)≤i+1
     omega
    ·show i+1≤(l.length:Int)
     omega
    ·by_cases hji:j=i
     ·subst hji
      simpa[std,ai,a0,AV.cells,Qg] using h2
     ·exact hi3 j h3 (by omega)
    ·show ((l.length:Int)-(i+1)).toNat<((l.length:Int)-i).toNat
     omega
    ·exact⟨rfl,rfl,trivial⟩
   ·have h1:¬ i<l.length:=by simpa[std,hlen] using h1
    generalize hp:std=p
    generalize hx:Q1 l=xs
    generalize hT:Q8 p tys cs0 _ _ _ _=T
    cbv at hT
    subst hT hp hx
    rw[if_pos trivial]
    refine FinOk.pure rfl (.inl ?_)
    rw[QcC (l:=l) (fun j h3 h4=>hi3 j h3 (Int.lt_of_lt_of_le h4 (Int.not_lt.1 h1)))]
structure TPart where
 kind:Int
 from_:Int
 to:Int
 deriving Inhabited
def TPart.av (x:TPart):AV:=.agg [.val (.int .i64 x.kind),.val (.int .i64 x.from_),.val (.int .i64 x.to)]
def Qf (l:List TPart):List AV:=l.map TPart.av
def Qu:TPart:=⟨0,0,0⟩
theorem Q6a (l:List TPart):(Qf l).length=l.length:=by simp[Qf]
theorem Qdu (a b:List TPart):Qf (a++b)=Qf a++Qf b:=by simp[Qf]
theorem Q8y (x:TPart):Qf [x]=[.agg [.val (.int .i64 x.kind),.val (.int .i64 x.from_),.val (.int .i64 x.to)]]:=rfl
theorem QeS {l:List TPart}{i:Int}(h0:0≤i)(h1:i<l.length):(Qf l)[i.toNat]?.getD .dead=(l[i.toNat]?.getD Qu).av:=QfK TPart.av h0 h1 Qu
def QG (l:List TPart)(a:Nat)(ks:List Int):Bool:=((l.drop a).take ks.length).map TPart.kind == ks
theorem Q1K {l:List TPart}{a:Nat}{ks:List Int}(ha:a≤l.length):QG l a ks=true↔(a+ks.length≤l.length∧∀ j,j<ks.length→(l[a+j]?.getD Qu).kind=ks[j]?.getD 0):=by
 have at_:a+ks.length≤l.length→∀ j,j<ks.length→(((l.drop a).take ks.length).map TPart.kind)[j]?=some (l[a+j]?.getD Qu).kind:=fun h j hj=>by
  have h1:a+j<l.length:=by omega
  simp[List.getElem?_take,List.getElem?_drop,hj,h1]
 rw[QG,beq_iff_eq]
 constructor
 ·intro h
  have h1:a+ks.length≤l.length:=by
   have:=congrArg List.length h
   simp only[List.length_map,List.length_take,List.length_drop] at this
   omega
  refine⟨h1,fun j hj=>?_⟩
  have h2:=at_ h1 j hj
  rw[h] at h2
  rw[h2];rfl
 ·rintro⟨h1,h2⟩
  refine List.ext_getElem? fun j=>?_
  by_cases hj:j<ks.length
  ·rw[at_ h1 j hj,h2 j hj,List.getElem?_eq_getElem hj];rfl
  ·rw[List.getElem?_eq_none (by simp;omega),List.getElem?_eq_none (by omega)]
theorem Q5i (l:List TPart)(hl:l.length≤1000000000)(a:Int)(h0:0≤a)(h1:a≤l.length)(ks:List Int)(hk:ks.length≤10)(res:AV)(a':Int)
  (hhit:QG l a.toNat ks=true→res=.slc 3 (Qf ((l.drop a.toNat).take ks.length))∧a'=a+ks.length) (hmiss:QG l a.toNat ks=false→res=.val (.slice none 0 0)∧a'=a) :
  BCall prog 101 [.box 0 0,.slc 1 (Q9 ks)] [.box [.slc 3 (Qf l),.val (.int .i64 a)]] res [.box [.slc 3 (Qf l),.val (.int .i64 a')]]:=by
 obtain⟨n,hn⟩:=QX l
 obtain⟨m,hm⟩:=QX ks
 refine fnN (cs:=cs0) func101 rfl (by kernel_rfl) ?_
 intro w0 g0
 have hpl:=Q6a l
 have hkl:=Q2h ks
 have hiff:=Q1K (l:=l) (a:=a.toNat) (ks:=ks) (by omega)
 generalize hp:std=p,hps:Qf l=ps,hkv:Q9 ks=kv
 generalize hT:Q8 p tys (cs0) _ _ _ _=T
 cbv at hT
 subst hT
 simp only[Tree.ok,Q4,S0]
 subst hp hps hkv
 have en:=hn.eq
 have em:=hm.eq
 replace h1:a≤(l.length:Int):=h1
 refine⟨?_,fun h=>?_,fun h=>?_⟩
 ·refine (Qjz _).2 ?_
  simp only[std,hpl];omega
 ·have h:(l.length:Int)-a<ks.length:=by simpa[std,hpl,hkl] using h
  obtain⟨rfl,rfl⟩:=hmiss (by
   rw[Bool.eq_false_iff];intro h2
   have:=(hiff.1 h2).1
   omega)
  exact⟨[some 0],.val (.slice none 0 0),_,rfl,rfl,Nat.le_refl _,rfl,by simp[Qh],.inl rfl⟩
 ·have h:¬ (l.length:Int)-a<ks.length:=by simpa[std,hpl,hkl] using h
  refine Q1P (cs:=cs0) (by kernel_rfl) (X:=Int) (fun i=>⟨[(0,.box 0 0),(1,.slc 1 (Q9 ks)),(21,.slc 1 (Q9 ks)),(22,.val (.int .i64 m)),(23,.val (.int .i64 i))],[.box [.slc 3 (Qf l),.val (.int .i64 a)]]⟩) (fun i=>0≤i∧i≤m∧∀ j:Nat,(j:Int)<i→(l[a.toNat+j]?.getD Qu).kind=ks[j]?.getD 0) (fun i=>(m-i).toNat) 0 ?_ ?_ ?_
  ·exact⟨by omega,by omega,fun j hj=>by omega⟩
  ·refine⟨[some 0],_,rfl,?_⟩
   simp[Qh,lk,std,hkl,em]
  ·have hmn:a+m≤n:=by omega
   clear h
   rintro i ⟨hi0,him,hi⟩
   rcases Int.lt_or_eq_of_le him with hlt|heq
   ·have hat:=Q2K (l:=ks) hi0 (by omega)
    have hap:=QeS (l:=l) (i:=a+i) (by omega) (by omega)
    have hai:(a+i).toNat=a.toNat+i.toNat:=by omega
    rw[hai] at hap
    have hi':∀ j:Nat,j<i.toNat→(l[a.toNat+j]?.getD Qu).kind=ks[j]?.getD 0:=fun j hj=>hi j (by omega)
    clear hi
    clear en em
    generalize hp:std=p,hps:Qf l=ps,hkv:Q9 ks=kv
    generalize hT:Q8 p tys (cs0) _ _ _ _=T
    cbv at hT
    subst hT
    simp only[Tree.ok,Q4,S0]
    subst hp hps hkv
    have en:=hn.eq
    have em:=hm.eq
    have hib:a+i<(l.length:Int):=by omega
    repeat' first
     |(with_reducible refine And.intro (fun hx=>absurd hx (by first|(try simp[std,S1,hat,hap,hai,TPart.av,hpl,hkl,hlt,hi0,hib])<;>omega|omega)) (fun _=>?_))
     |(with_reducible refine And.intro (fun _=>?_) (fun hx=>absurd hx (by first|(try simp[std,S1,hat,hap,hai,TPart.av,hpl,hkl,hlt,hi0,hib])<;>omega|omega)))
     |(with_reducible refine And.intro (by first|(try simp[std,S1,hat,hap,hai,TPart.av,hpl,hkl,hlt,hi0,hib])<;>omega|omega) ?_)
     |(with_reducible refine And.intro ?_ ?_)
     |(with_reducible intro hb)
    ·have hne:¬ (l[a.toNat+i.toNat]?.getD Qu).kind=ks[i.toNat]?.getD 0:=by
      simpa[std,hat,hap,hai,TPart.av,AV.cells,Qg] using hb
     obtain⟨rfl,rfl⟩:=hmiss (by
      rw[Bool.eq_false_iff];intro h2
      exact hne ((hiff.1 h2).2 i.toNat (by omega)))
     generalize hp:std=p,hps:Qf l=ps,hkv:Q9 ks=kv
     generalize hT:Q5B p tys _ _ _ _=T
     cbv at hT
     subst hT
     simp only[Tree.ok,Q4,S0]
     subst hp hps hkv
     exact⟨[some 0],.val (.slice none 0 0),_,rfl,rfl,Nat.le_refl _,rfl,by simp[Qh],.inl rfl⟩
    ·have he:(l[a.toNat+i.toNat]?.getD Qu).kind=ks[i.toNat]?.getD 0:=by
      simpa[std,hat,hap,hai,TPart.av,AV.cells,Qg] using hb
     refine⟨i+1,⟨by omega,by omega,fun j hj=>?_⟩,by omega,[some 0],_,rfl,by simp[Qh,lk,std]⟩
     have hj:(j:Int)<i+1:=hj
     by_cases hji:j<i.toNat
     ·exact hi' j hji
     ·obtain rfl:j=i.toNat:=by omega
      exact he
   ·obtain⟨rfl,rfl⟩:=hhit (hiff.2 ⟨by omega,fun j hj=>hi j (by omega)⟩)
    have hcut:std.cut (Qf l) a (a+m)=Qf ((l.drop a.toNat).take ks.length):=by
     show ((Qf l).drop a.toNat).take (a+m-a).toNat=_
     rw[show (a+m-a).toNat=ks.length by omega,Qf,Qf,List.map_take,List.map_drop]
    have hml:std.len (Q9 ks)=m:=by simp only[std,hkl,em]
    have hka:a+(ks.length:Int)=a+m:=by omega
    rw[hka,←hcut]
    clear en em hi
    generalize hp:std=p,hps:Qf l=ps,hkv:Q9 ks=kv
    generalize hT:Q8 p tys (cs0) _ _ _ _=T
    cbv at hT
    subst hT
    simp only[Tree.ok,Q4,S0]
    subst hp hps hkv
    repeat' first
     |(with_reducible refine And.intro (fun hx=>absurd hx (by first|(try simp[std,S1,heq])<;>omega|omega)) (fun _=>?_))
     |(with_reducible refine And.intro (fun _=>?_) (fun hx=>absurd hx (by first|(try simp[std,S1,heq])<;>omega|omega)))
     |(with_reducible refine And.intro (by first|(try simp[std,S1,heq])<;>omega|omega) ?_)
     |(with_reducible refine And.intro ?_ ?_)
     |(with_reducible intro hb)
    rw[if_pos trivial]
    generalize hp:std=p,hps:Qf l=ps,hkv:Q9 ks=kv
    generalize hT:Q8 p tys cs0 _ _ _ _=T
    cbv at hT
    subst hT
    simp only[Tree.ok,Q4,S0]
    subst hp hps hkv
    have en:=hn.eq
    have em:=hm.eq
    repeat' first
     |(with_reducible refine And.intro (fun hx=>absurd hx (by first|(try simp[std,S1,hml,hpl,hkl,←em])<;>omega|omega)) (fun _=>?_))
     |(with_reducible refine And.intro (fun _=>?_) (fun hx=>absurd hx (by first|(try simp[std,S1,hml,hpl,hkl,←em])<;>omega|omega)))
     |(with_reducible refine And.intro (by first|(try simp[std,S1,hml,hpl,hkl,←em])<;>omega|omega) ?_)
     |(with_reducible refine And.intro ?_ ?_)
     |(with_reducible intro hb)
    have hadd:std.add a (std.len (Q9 ks))=a+m:=by rw[hml];rfl
    refine⟨[some 0],.slc 3 (std.cut (Qf l) a (a+m)),_,rfl,rfl,Nat.le_refl _,rfl,⟨?_,rfl,?_,trivial⟩,.inl rfl⟩
    ·show AV.slc 3 (std.cut (Qf l) a (std.add a (std.len (Q9 ks))))=_
     rw[hadd]
    ·show AV.val (.int .i64 (std.add a (std.len (Q9 ks))))=_
     rw[hadd]
end Go.Proofs.YtibemhahkicbpaaGreat
namespace Go.Proofs.YtibemhahkicbpaaGreat
open Go.RowKit Go.Lib
def QkG (ob ob2 ob2' obr:List Ob)(ρ ρ':List (Option Nat)):Bool:=(List.range ob.length).all fun i=>match Qfh ρ i with
 |some j=>ρ'[i]? == some (some j)&&(match ob[i]?,ob2[j]?,ob2'[j]?,obr[i]? with
  |some (.row _ _ _ e0 _),some (.row _ _ _ e2 _),some (.row _ _ _ e2' _),some (.row _ _ _ er _)=>decide (e0<er)||(e0 == er&&e2 == e2')
  |_,_,_,_=>true)
 |none=>false
section
variable {w w':World} {g g':Gh} {ob ob2 ob2' obr:List Ob} {ρ ρ':List (Option Nat)}
theorem QfF (hF:Fits ob ob2 ρ)(ho:Q2a ρ=true)(hF':Fits ob2' obr ρ')(ho':Q2a ρ'=true)(hi:QkG ob ob2 ob2' obr ρ ρ'=true)(hn:ob.length≤obr.length)(h0:Step w (g.ren ρ) ob2 w' g' ob2'):Step w g ob w' (g'.ren ρ') obr:=by
 have head:∀ i,i<ob.length→∃ j,ρ[j]?=some (some i)∧ρ'[i]?=some (some j)∧∀ e0 e2 e2' er et sz fz xs et2 sz2 fz2 xs2 et3 sz3 fz3 xs3 et4 sz4 fz4 xs4,
   ob[i]?=some (.row et sz fz e0 xs)→ob2[j]?=some (.row et2 sz2 fz2 e2 xs2)→ob2'[j]?=some (.row et3 sz3 fz3 e2' xs3)→obr[i]?=some (.row et4 sz4 fz4 er xs4)→e0<er∨(e0=er∧e2=e2'):=fun i hi'=>by
  have:=List.all_eq_true.1 hi i (List.mem_range.2 hi')
  split at this
  ·rename_i j hj
   simp only[Bool.and_eq_true,beq_iff_eq] at this
   refine⟨j,QbC hj,this.1,?_⟩
   intro e0 e2 e2' er et sz fz xs et2 sz2 fz2 xs2 et3 sz3 fz3 xs3 et4 sz4 fz4 xs4 h1 h2 h3 h4
   have h5:=this.2
   simp only[h1,h2,h3,h4,Bool.or_eq_true,Bool.and_eq_true,beq_iff_eq,decide_eq_true_eq] at h5
   exact h5
  ·cases this
 refine⟨h0.os,h0.tape,h0.output,h0.size,fun b hb hG=>h0.keep b hb (by simp[Gh.ren,hG]),fun b id hG=>?_,fun b o hA=>?_,⟨h0.ext.A,fun id hid=>?_,fun id hb=>?_,fun id hb=>?_,fun id et sz fz e xs hr=>?_,fun b id hG hs=>?_⟩,hn⟩
 ·obtain⟨i,_,h3⟩:=Q2n hG
  rcases h0.own b i h3 with ⟨id',h4⟩|h4
  ·obtain⟨i',_,h5⟩:=Q2n h4
   exact .inl ⟨i',h5⟩
  ·exact .inr h4
 ·rcases h0.imm b o hA with h1|⟨id,h1⟩|h1
  ·exact .inl h1
  ·obtain⟨i',_,h5⟩:=Q2n h1
   exact .inr (.inl ⟨i',h5⟩)
  ·exact .inr (.inr h1)
 ·obtain⟨j,h1,h2,_⟩:=head id hid
  have hj:j<ob2.length:=hF.1 ▸ Q7 h1
  rw[Q2z h2,h0.ext.loc j hj,Q2z h1]
 ·obtain⟨j,h1,h2,_⟩:=head id (Q3h hb)
  exact hF'.isB h2 (h0.ext.isb j (hF.isB h1 hb))
 ·obtain⟨j,h1,h2,_⟩:=head id (Q3T hb)
  exact hF'.isI h2 (h0.ext.isi j (hF.isI h1 hb))
 ·obtain⟨j,h1,h2,h3⟩:=head id (Q7 hr)
  obtain⟨fz2,e2,h4,_⟩:=hF.row h1 hr
  obtain⟨fz3,e3,xs3,h5,h6,h7⟩:=h0.ext.row j et sz fz2 e2 xs h4
  obtain⟨fz4,e4,h8,_⟩:=hF'.row h2 h5
  refine⟨fz4,e4,xs3,h8,by rcases h3 _ _ _ _ _ _ _ _ _ _ _ _ _ _ _ _ _ _ _ _ hr h4 h5 h8 with h|h<;>omega,fun he=>?_⟩
  have hee:e3=e2:=by
   rcases h3 _ _ _ _ _ _ _ _ _ _ _ _ _ _ _ _ _ _ _ _ hr h4 h5 h8 with h|h
   ·omega
   ·exact h.2.symm
  obtain⟨h9,h10⟩:=h7 hee
  refine⟨h9,fun b hb=>?_⟩
  obtain⟨h11,h12⟩:=h10 b (Q56 ho h1 hb)
  exact⟨Q56 ho' h2 h11,h12⟩
 ·obtain⟨et,sz,fz,fz',e,xs,xs',h4,h5⟩:=hs
  obtain⟨j,h1,h2,h3⟩:=head id (Q7 h4)
  obtain⟨fz2,e2,h6,_⟩:=hF.row h1 h4
  obtain⟨fz3,e3,xs3,h7,h8,h9⟩:=h0.ext.row j et sz fz2 e2 xs h6
  obtain⟨fz4,e4,h10,_⟩:=hF'.row h2 h7
  rw[h10] at h5
  obtain⟨rfl,rfl,rfl⟩:fz4=fz'∧e4=e∧xs3=xs':=by simpa using h5
  have hee:e2=e3:=by
   rcases h3 _ _ _ _ _ _ _ _ _ _ _ _ _ _ _ _ _ _ _ _ h4 h6 h7 h10 with h|h
   ·omega
   ·exact h.2
  subst hee
  have hG2:=Q56 (g:=g) ho h1 hG
  obtain⟨h11,h12⟩:=h0.ext.sub b j hG2 ⟨_,_,_,_,_,_,_,h6,h7⟩
  have hG3:=((h9 rfl).2 b hG2).1
  have e1:=Q3s (g:=g) ho h1 hG
  have e2:=Q3s (g:=g') ho' h2 hG3
  exact⟨e2.trans (h11.trans e1),fun hb=>h12 (by rw[e1];exact hb)⟩
theorem BCall.tell {P:Program}{f:Nat}{args args2:List AV}{res2 res' res:AV}{l l':Eqs}(h:BCall P f args2 ob2 res2 ob2')(ρ ρ':List (Option Nat))(h1:Q2a ρ=true)(h1':Q2a ρ'=true)(hi:QkG ob ob2 ob2' obr ρ ρ'=true)(hn:ob.length≤obr.length)
  (ha:both (Q9Y ob ob2 ρ args args2) (Q6s ob ob2 ρ ρ ob2)=some l) (hl:Qh l) (hr:both (Qf7 ob2' obr ρ' res2 res') (Q6s ob2' obr ρ' ρ' obr)=some l') (hl':Qh l') (h6:leA res' res):BCall P f args ob res obr:=by
 refine⟨h.1,fun w g vs M hL=>?_⟩
 obtain⟨⟨l1,e1,a1⟩,l2,e2,a2⟩:=Q2m ha hl
 obtain⟨⟨l3,e3,a3⟩,l4,e4,a4⟩:=Q2m hr hl'
 have hF:Fits ob ob2 ρ:=Q3y _ _ _ e2 a2
 have hF':Fits ob2' obr ρ':=Q3y _ _ _ e4 a4
 obtain⟨k1,k2⟩:=Q72 hF h1 _ _ _ _ e1 a1 hL.1 hL.2
 refine (h.2 w (g.ren ρ) vs (M.ren hF h1) ⟨k1,k2⟩).mono fun e w' ⟨v,g',k1,k2,k3,k4⟩=>?_
 exact⟨v,g'.ren ρ',k1,k2.ren hF' h1',Q7Q (Q8k hF' h1' k3 e3 a3) h6,QfF hF h1 hF' h1' hi hn k4⟩
end
section
variable {P:Program} {ty:Tys} {w0:World} {g0:Gh} {o0:List Ob} {N:Nat}
theorem Q8p (hT:TyOk P ty)(hm:P.follows .mixedOrders=true){ord:Nat→OT}{c:Code}(hd:Q1I N c=true)(ho:Q1C .any ty ord c=true)
  {X:Type} (cs:X→Nat→List AV→List Ob→Option (AV×List Ob)) (S:X→St) (J:X→Prop) (μ:X→Nat) {Q:Ex→St→Prop} {s:St} (x0:X) (h0:J x0) (hS:Qic o0 s (S x0))
  (round:∀ x,J x→(Q8 std ty (cs x) ord c (fun e s=>.leaf e s) (S x)).ok P w0 g0 o0 N (Q4 o0 S J μ x Q)):WP P w0 g0 o0 N (.loop c) Q s:=by
 intro a w hs
 obtain⟨ρ,l,hl,hE⟩:=hS
 let I:Act→World→Prop:=fun a w=>∃ x,J x∧Sim w0 g0 o0 N (S x) a w
 let pm:Act→World→Nat→Prop:=fun a w n=>∃ x,J x∧Sim w0 g0 o0 N (S x) a w∧μ x=n
 let m:Act→World→Nat:=fun a w=>open Classical in if h:∃ n,pm a w n then Classical.choose (Q9X _ h) else 0
 have hmin:∀ a w,I a w→pm a w (m a w)∧∀ k,pm a w k→m a w≤k:=fun a w hI=>by
  have h:∃ n,pm a w n:=by
   obtain⟨x,h1,h2⟩:=hI
   exact⟨μ x,x,h1,h2,rfl⟩
  have e:m a w=Classical.choose (Q9X _ h):=dif_pos h
  rw[e]
  exact Classical.choose_spec (Q9X _ h)
 refine wp_loop I m ⟨x0,h0,Q6z ρ hl hE hs⟩ fun a w hI=>?_
 obtain⟨⟨x,hJ,hx,hμ⟩,hle⟩:=hmin a w hI
 refine Q3j (Q:=Q4 o0 S J μ x Q) hT hm c _ _ (S x) a w hd ho (fun c a d v w h=>?_) (fun e s a' w' hs' hq=>?_) hx (round x hJ)
 ·obtain⟨e',s',h1,h2,h3⟩:=h
  cases e'<;>cases h1
 ·cases e with
  |normal =>
   obtain⟨x',h1,h2,ρ',l',h3,h4⟩:=hq
   have hs2:=Q6z ρ' h3 h4 hs'
   have hI':I a' w':=⟨x',h1,hs2⟩
   refine⟨hI',Nat.lt_of_le_of_lt ((hmin a' w' hI').2 _ ⟨x',h1,hs2,rfl⟩) ?_⟩
   rw[←hμ];exact h2
  |exit i=>exact⟨.exit i,s,rfl,hs',hq⟩
  |ret=>exact⟨.ret,s,rfl,hs',hq⟩
end
end Go.Proofs.YtibemhahkicbpaaGreat
namespace Go.Proofs.YtibemhahkicbpaaGreat
open Go.RowKit Go.Lib
theorem QkD {α:Type}(f:α→AV){l:List α}{i:Int}(h0:0≤i)(h1:i<l.length)(d:α):std.at_ (l.map f) i=f (l[i.toNat]?.getD d):=by
 show (l.map f).getD i.toNat .dead=_
 rw[List.getD_eq_getElem?_getD];exact QfK f h0 h1 d
theorem QbA {l:List Int}{i:Int}(h0:0≤i)(h1:i<l.length):std.nth (std.cel (std.at_ (Q9 l) i)) 0=.val (.int .i64 (l[i.toNat]?.getD 0)):=by rw[Q9,QkD Qd7 h0 h1 0];rfl
theorem Qjv {x:AV}{n:Int}{k:IntKind}(h:x=.val (.int k n)):std.hasI k x:=by subst h;rfl
theorem QhL {x:AV}{n:Int}{k:IntKind}(h:x=.val (.int k n)):std.int x=n:=by subst h;rfl
end Go.Proofs.YtibemhahkicbpaaGreat
namespace Go.Proofs.YtibemhahkicbpaaGreat
open Go.RowKit Go.Lib Tryz
inductive Cur where
 |root (n:Int)
 |kid (n f k:Int) (up:Cur)
 deriving Inhabited
def Cur.n:Cur→Int
 |.root n=>n
 |.kid n _ _ _=>n
def Cur.f:Cur→Int
 |.root _=>0
 |.kid _ f _ _=>f
def Cur.k:Cur→Int
 |.root _=>0
 |.kid _ _ k _=>k
def upO (N:List AV):Cur→AV
 |.root _=>.val (.pointer none)
 |.kid _ _ _ up=>.ref [.ref [.slc 6 N],.val (.int .i64 up.n),.val (.int .i64 up.f),.val (.int .i64 up.k),.opt (upO N up)]
def Cur.cs (N:List AV)(c:Cur):List AV:=[.ref [.slc 6 N],.val (.int .i64 c.n),.val (.int .i64 c.f),.val (.int .i64 c.k),.opt (upO N c)]
def QkZ:List AV:=[.val (.pointer none),.val (.int .i64 0),.val (.int .i64 0),.val (.int .i64 0),.val (.pointer none)]
theorem Qau (N:List AV)(c:Cur):Q3A (upO N c):=by cases c<;>trivial
def Qa (l:List Node)(c:Cur):List Int:=(Qe l c.n).kids
def Q1X (l:List Node)(c:Cur)(k:Int):Cur:=.kid ((Qa l c)[k.toNat]?.getD 0) (c.f+Q1l l ((Qa l c).take k.toNat)) k c
def QkW (len:List AV→Int):Nat→List AV→List Ob→Option (AV×List Ob):=fun f args _=>match f,args with
 |118,[.ref [.slc 6 xs]]=>some (.val (.int .i64 (len xs)),[])
 |_,_=>none
theorem QjQ (l:List Node)(n:Int)(h0:0≤n)(h1:n<l.length):BCall prog 67 [.ref [.slc 6 (Q0 l)],.val (.int .i64 n)] [] (.tup [.agg ((Cur.root n).cs (Q0 l)),.val (.int .i64 0)]) []:=by
 have cL:=Q9E l
 have hlen:Q3X (Q0 l)=l.length:=by rw[Q3X,QT]
 refine fnN (cs:=QkW Q3X) func67 rfl (by kernel_rfl) ?_
 intro w0 g0
 generalize hp:std=p,hlen:Q3X=len,hN:Q0 l=N
 generalize hT:Q8 p tys (QkW len) _ _ _ _=T
 cbv at hT
 subst hT
 simp only[Tree.ok,Q4,S0]
 subst hp hlen hN
 refine⟨fun h=>?_,fun _=>⟨cL,fun h=>?_,fun _=>.pure rfl ⟨⟨.inl rfl,.inl rfl,.inl rfl,.inl rfl,.inr (.inr (.inl ⟨rfl,trivial⟩)),trivial⟩,.inl rfl,trivial⟩⟩⟩
 ·have h:n<0:=of_decide_eq_true h
  omega
 ·have h:Q3X (Q0 l)≤n:=of_decide_eq_true h
  omega
def QeY (kd:Int→List AV)(w:Int→Int):Nat→List AV→List Ob→Option (AV×List Ob):=fun f args _=>match f,args with
 |68,[.ref [.slc 6 _],.val (.int .i64 n)]=>some (.slc 1 (kd n),[])
 |58,[.ref [.slc 6 _],.val (.int .i64 n)]=>some (.val (.int .i64 (w n)),[])
 |_,_=>none
theorem Qiu (l:List Node)(c:Cur)(k:Int)(h0:0≤k)(h1:k<(Qa l c).length)(hn:(Qa l c).length≤1000000)(hw:∀ n,0≤QJ l n)(hs:Q1l l (Qa l c)≤2147483647)(hf0:0≤c.f)(hf1:c.f≤2147483647) :
  BCall prog 56 [.agg (c.cs (Q0 l)),.val (.int .i64 k)] [] (.tup [.agg ((Q1X l c k).cs (Q0 l)),.val (.bool true)]) []:=by
 have cK:=QhC l c.n (by show (Qa l c).length≤_;omega)
 have cW:=fun n=>Qir l n
 obtain⟨cn,hcn⟩:=exq c.n
 obtain⟨cf,hcf⟩:=exq c.f
 obtain⟨ck,hck⟩:=exq c.k
 obtain⟨ks,hks⟩:=exq (Qa l c)
 obtain⟨m,hm⟩:=QX ks
 have hkN:Q1n l cn=Q9 ks:=by rw[hcn,hks];rfl
 rw[←hks] at h1 hn hs
 rw[←hcf] at hf0 hf1
 have h1m:k<m:=by rw[hm.eq];exact h1
 have hlen:=Q2h ks
 have hkl:std.len (Q1n l cn)=m:=by show ((Q1n l cn).length:Int)=_;rw[hkN,hlen,hm.eq]
 have hE:(Q1X l c k).cs (Q0 l)=[.ref [.slc 6 (Q0 l)],.val (.int .i64 (ks[k.toNat]?.getD 0)),.val (.int .i64 (cf+Q1l l (ks.take k.toNat))),.val (.int .i64 k),.opt (.ref [.ref [.slc 6 (Q0 l)],.val (.int .i64 cn),.val (.int .i64 cf),.val (.int .i64 ck),.opt (upO (Q0 l) c)])]:=by
  rw[hks,hcf,hcn,hck];rfl
 rw[hE,Cur.cs,←hcn,←hcf,←hck]
 rw[←hcn] at cK
 have cK:BCall prog 68 [.ref [.slc 6 (Q0 l)],.val (.int .i64 cn)] [] (.slc 1 (Q1n l cn)) []:=cK
 have hat:=Q2K (l:=ks) h0 h1
 have hcut:std.cut (Q9 ks) 0 k=Q9 (ks.take k.toNat):=by
  show ((Q9 ks).drop (0:Int).toNat).take (k-0).toNat=_
  simp[Q9,List.map_take]
 clear h1 hE
 refine fnN (cs:=QeY (Q1n l) (QJ l)) func56 rfl (by kernel_rfl) ?_
 intro w0 g0
 generalize hp:std=p
 generalize hkd:Q1n l=kd
 generalize hw:QJ l=w
 generalize hU:upO (Q0 l) c=U
 generalize hN:Q0 l=N
 generalize hT:Q8 p tys (QeY kd w) _ _ _ _=T
 cbv at hT
 subst hT
 simp only[Tree.ok,Q4,S0]
 subst hp hkd hw hU hN
 refine⟨cK,fun h=>?_,fun _=>⟨fun h=>?_,fun _=>⟨?_,?_⟩⟩⟩
 ·have h:k<0:=of_decide_eq_true h
  omega
 ·have h:std.len (Q1n l cn)≤k:=of_decide_eq_true h
  rw[hkl] at h;omega
 ·show std.cutok 0 k (std.len (Q1n l cn))
  rw[hkl];exact⟨Int.le_refl _,h0,by omega⟩
 have hcl:std.len (Q9 (ks.take k.toNat))=k:=by
  show ((Q9 (ks.take k.toNat)).length:Int)=k
  have:=hm.eq
  rw[Q2h,List.length_take];omega
 rw[←hkN] at hcut
 obtain⟨aw,haw⟩:=exq (fun i=>cf+Q1l l (ks.take i.toNat):Int→Int)
 have hwk:cf+Q1l l (ks.take k.toNat)=aw k:=by rw[haw]
 rw[hwk]
 have hcl2:std.len (std.cut (Q1n l cn) 0 k)=k:=by rw[hcut,hcl]
 refine Q1P (cs:=QeY (Q1n l) (QJ l)) (by kernel_rfl) (X:=Int) (fun i=>⟨[(1,.val (.int .i64 k)),(2,.box 0 0),(4,.box 1 0),(6,.slc 1 (Q9 ks)),(7,.val (.int .i64 (aw i))),(28,.slc 1 (Q9 (ks.take k.toNat))),(29,.val (.int .i64 k)),(30,.val (.int .i64 i))],[.box [.ref [.slc 6 (Q0 l)],.val (.int .i64 cn),.val (.int .i64 cf),.val (.int .i64 ck),.opt (upO (Q0 l) c)],.box QkZ]⟩) (fun i=>0≤i∧i≤k) (fun i=>(k-i).toNat) 0 ?_ ?_ ?_
 ·exact⟨Int.le_refl _,h0⟩
 ·refine⟨[some 0,some 1],_,rfl,?_⟩
  have hw0:cf=aw 0:=by rw[haw];simp[Q1l]
  repeat first
   |exact trivial
   |refine⟨gA hkN,?_⟩
   |refine⟨gA hcut,?_⟩
   |refine⟨gI hcl2,?_⟩
   |refine⟨gI hw0,?_⟩
   |refine⟨rfl,?_⟩
 ·rintro i ⟨hi0,hi1⟩
  have hw1:=Q4g hw (ks.take i.toNat)
  have hw2:=Q7K hw ks i.toNat
  rcases Int.lt_or_eq_of_le hi1 with hlt|heq
  ·have hm1:=hm.eq
   have hil:i.toNat<ks.length:=by omega
   have hx:(Q9 (ks.take k.toNat))[i.toNat]?.getD .dead=.val (.int .i64 (ks[i.toNat]?.getD 0)):=by
    have:=Q2K (l:=ks.take k.toNat) (i:=i) hi0 (by rw[List.length_take];omega)
    rw[this,List.getElem?_take,if_pos (by omega)]
   have hxc:=QbA (l:=ks.take k.toNat) (i:=i) hi0 (by rw[List.length_take];omega)
   rw[List.getElem?_take,if_pos (by omega)] at hxc
   have hnx:Q1l l (ks.take (i+1).toNat)=Q1l l (ks.take i.toNat)+QJ l (ks[i.toNat]?.getD 0):=by
    rw[show (i+1).toNat=i.toNat+1 by omega,List.take_add_one,List.getElem?_eq_getElem hil]
    show (((ks.take i.toNat)++[ks[i.toNat]]).map (QJ l)).sum=_
    rw[List.map_append,List.sum_append]
    simp[Q1l]
   have hw3:=Q7K hw ks (i+1).toNat
   rw[hnx] at hw3
   have hw4:=hw (ks[i.toNat]?.getD 0)
   have haw2:aw (i+1)=aw i+QJ l (ks[i.toNat]?.getD 0):=by rw[haw];simp only[hnx];omega
   have hawi:aw i=cf+Q1l l (ks.take i.toNat):=by rw[haw]
   have hr1:0≤aw i+QJ l (ks[i.toNat]?.getD 0)∧aw i+QJ l (ks[i.toNat]?.getD 0)≤4294967294:=by omega
   obtain⟨y,hy⟩:=exq (ks[i.toNat]?.getD 0)
   rw[←hy] at hx hxc haw2 hr1
   clear hm1 hw1 hw2 hw3 hnx hw4 hawi haw hwk
   have hlt':=hlt
   generalize hp:std=p
   generalize hkd:Q1n l=kd
   generalize hw:QJ l=w
   generalize hU:upO (Q0 l) c=U
   generalize hN:Q0 l=N
   generalize hKS:Q9 ks=KS
   generalize hKT:Q9 (ks.take k.toNat)=KT
   generalize hT:Q8 p tys (QeY kd w) _ _ _ _=T
   cbv at hT
   subst hT
   simp only[Tree.ok,Q4,S0]
   subst hp hkd hw hU hN hKS hKT
   have hy3:=hxc
   have hy2:=QhL hxc
   have e1:aw i+QJ l y=aw (i+1):=haw2.symm
   refine⟨fun _=>⟨?_,⟨?_,trivial⟩,cW _,?_,?_,i+1,⟨by omega,by omega⟩,by omega,[some 0,some 1],_,rfl,?_⟩,fun h=>?_⟩
   ·show 0≤i∧i<std.len (Q9 (ks.take k.toNat))
    rw[hcl];omega
   ·show std.nth (std.cel (std.at_ (Q9 (ks.take k.toNat)) i)) 0=.val (.int .i64 (std.int (std.nth (std.cel (std.at_ (Q9 (ks.take k.toNat)) i)) 0)))
    rw[hy2,hy3]
   ·show (-9223372036854775808:Int)≤aw i+QJ l (std.int (std.nth (std.cel (std.at_ (Q9 (ks.take k.toNat)) i)) 0))∧aw i+QJ l (std.int (std.nth (std.cel (std.at_ (Q9 (ks.take k.toNat)) i)) 0))≤(9223372036854775807:Int)
    rw[hy2];omega
   ·show (-9223372036854775808:Int)≤i+1∧i+1≤(9223372036854775807:Int)
    have:=hm.eq
    omega
   ·have e2:std.add (aw i) (QJ l (std.int (std.nth (std.cel (std.at_ (Q9 (ks.take k.toNat)) i)) 0)))=aw (i+1):=by rw[hy2];exact e1
    repeat first
     |exact trivial
     |refine⟨rfl,?_⟩
     |refine⟨e2,?_⟩
     |refine⟨gI (e2),?_⟩
     |refine⟨gA (e2),?_⟩
     |refine⟨gB (e2),?_⟩
     |refine⟨gR (e2),?_⟩
     |refine⟨gT (e2),?_⟩
   ·have h:¬ i<k:=of_decide_eq_false h
    omega
  ·rw[heq]
   clear hw1 hw2 haw hwk
   generalize hp:std=p
   generalize hkd:Q1n l=kd
   generalize hw:QJ l=w
   generalize hU:upO (Q0 l) c=U
   generalize hN:Q0 l=N
   generalize hKS:Q9 ks=KS
   generalize hKT:Q9 (ks.take k.toNat)=KT
   generalize hT:Q8 p tys (QeY kd w) _ _ _ _=T
   cbv at hT
   subst hT
   simp only[Tree.ok,Q4,S0]
   subst hp hkd hw hU hN hKS hKT
   refine⟨fun h=>?_,fun _=>?_⟩
   ·have h:k<k:=of_decide_eq_true h
    omega
   rw[if_pos trivial]
   generalize hp:std=p
   generalize hkd:Q1n l=kd
   generalize hw:QJ l=w
   generalize hU:upO (Q0 l) c=U
   generalize hN:Q0 l=N
   generalize hKS:Q9 ks=KS
   generalize hKT:Q9 (ks.take k.toNat)=KT
   generalize hT:Q8 p tys (QeY kd w) _ _ _ _=T
   cbv at hT
   subst hT
   simp only[Tree.ok,Q4,S0]
   subst hp hkd hw hU hN hKS hKT
   have hkm:=hm.eq
   have hcl3:std.len (Q9 ks)=m:=by show ((Q9 ks).length:Int)=m;rw[Q2h,hm.eq]
   have hc:=QbA (l:=ks) h0 (by omega)
   refine⟨?_,⟨Qjv hc,trivial⟩,.pure rfl ⟨⟨.inl rfl,.inl (gI (QhL hc)),.inl rfl,.inl rfl,.inr (.inr (.inl ⟨rfl,trivial⟩)),trivial⟩,.inl rfl,trivial⟩⟩
   show 0≤k∧k<std.len (Q9 ks)
   rw[hcl3];omega
def Qlb (k:Int→Int):Nat→List AV→List Ob→Option (AV×List Ob):=fun f args _=>match f,args with
 |115,[.ref [.slc 6 _],.val (.int .i64 n)]=>some (.val (.int .i64 (k n)),[])
 |_,_=>none
theorem Qjr (l:List Node)(c:Cur):BCall prog 55 [.agg (c.cs (Q0 l))] [] (.val (.int .i64 (Qe l c.n).kind)) []:=by
 have cK:=Qk9 l c.n
 rw[Cur.cs]
 obtain⟨cn,hcn⟩:=exq c.n
 obtain⟨cf,hcf⟩:=exq c.f
 obtain⟨ck,hck⟩:=exq c.k
 rw[←hcn] at cK ⊢
 rw[←hcf,←hck]
 refine fnN (cs:=Qlb (QD l)) func55 rfl (by kernel_rfl) ?_
 intro w0 g0
 generalize hp:std=p
 generalize hkd:QD l=kd
 generalize hU:upO (Q0 l) c=U
 generalize hN:Q0 l=N
 generalize hT:Q8 p tys (Qlb kd) _ _ _ _=T
 cbv at hT
 subst hT
 simp only[Tree.ok,Q4,S0]
 subst hp hkd hU hN
 exact⟨cK,.pure rfl (.inl rfl)⟩
def toC (l:List Node):Cur→List Int→Option Cur
 |c,[]=>some c
 |c,k::r=>if 0≤k∧k<(Qa l c).length then toC l (Q1X l c k) r else none
structure CurOk (l:List Node) (c:Cur):Prop where
 n:(Qa l c).length≤1000000
 s:Q1l l (Qa l c)≤2147483647
 f0:0≤c.f
 f1:c.f≤2147483647
end Go.Proofs.YtibemhahkicbpaaGreat
namespace Go.Proofs.YtibemhahkicbpaaGreat
open Go.RowKit Go.Lib
end Go.Proofs.YtibemhahkicbpaaGreat
namespace Go.Proofs.YtibemhahkicbpaaGreat
open Go.RowKit Go.Lib
section
variable {P:Program} {ty:Tys}
end
end Go.Proofs.YtibemhahkicbpaaGreat
