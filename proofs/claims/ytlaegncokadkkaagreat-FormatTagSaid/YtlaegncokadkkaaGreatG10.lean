/- Lemmas, conditions told -/
import Derived.Test.YtlaegncokadkkaaGreatG09
import Derived.Shelf.Strings.Search1
import Derived.Test.YtlaegncokadkkaaGreatG04
import Derived.Lib.Split
set_option maxRecDepth 99999
set_option maxHeartbeats 0
set_option linter.unusedSimpArgs false
set_option linter.unusedVariables false
namespace Go.Proofs.YtlaegncokadkkaaGreat
open List(getElem?_eq_getElem set_cons_succ getElem?_set_ne getElem?_set_self getD_eq_getElem?_getD length_take length_set map_cons map_congr_left drop_zero drop_succ_cons find?_cons getElem_drop)
open Nat(le_refl zero_le lt_of_lt_of_le zero_add add_zero)
open Go.RowKit Go.Lib
section
open Tryz
def QjA(P:Program)(fn:Func)(D:List Deferred):Prop:=∀(tmps:Array Value)(R:Ending->World->Prop)(w:World),(∃v,(results fn tmps).run P w=.ok v w/\R (.returned v) w)->Leaves P fn tmps R D .returning w
def Qo7(Q:Exit->Act->World->Prop)(e:Exit)(a:Act)(w:World):Prop:=match e with
 |.panic _=>False
 |e=>Q e a w
theorem Qe3{P:Program}{ty:Tys}(hT:TyOk P ty)(hm:P.follows .mixedOrders=true){cs:Nat->List AV->List Ob->Option (AV×List Ob)}{ord:Nat->OT}
  {f:Nat} {fn:Func} {c0 c:Code} {args:List AV} {ob:List Ob} {res:AV} {ob':List Ob} (hf:P.funcs[f]?=some fn) (hb:fn.body=some c0) (he:∀vs w,(callFunc f vs).run P w=.ok (.enter f vs) w)
  (hd:Q1g fn.ntmps c=true) (ho:Q1e .any ty ord c=true) (s1:St)
  (h0:∀(w:World)(g:Gh)(vs:List Value),Mem w g ob->Q1D w g ob vs args->∃D,QjA P fn D /\
    ∀Q,(∀a w',Sim D w g ob fn.ntmps s1 a w'->c.wp P Q a w')->c0.wp P Q { tmps:=vs.toArray++Array.replicate (fn.ntmps-vs.toArray.size) undef,defers:=[] } w)
  (h:∀D w0 g0,(QU std ty cs ord c (Q5o std ty true fn.results.toList) s1).ok D P w0 g0 ob fn.ntmps (FinOk ob res ob')):BCall P f args ob res ob':=by
 refine⟨he,fun w g vs M hL=>calls_of_wp_defers hf hb ?_⟩
 obtain⟨D,hI,h0⟩:=h0 w g vs M hL;refine h0 _ fun a w1 hs=>?_
 have key:c.wp P (Qo7 (bodyPostD P fn fun e w'=>∃v g',e=.returned v/\Mem w' g' ob'/\ARel w' g' ob' v res/\Step w g ob w' g' ob')) a w1:=?_
 ·refine wp_mono key fun e a w h=>?_
  cases e<;>first|exact h|exact h.elim
 refine Q2n (Df:=D) (w0:=w) (g0:=g) (o0:=ob) (N:=fn.ntmps) (Q:=FinOk ob res ob') hT hm c _ _ s1 a w1 hd ho (fun c a d v w h=>h.elim) (fun e s a w' ht hs hq=>?_) (fun v s a w' ht _ hq=>by unfold FinOk at hq;rw[ht]at hq;exact hq.elim) hs (h D w g)
 have fin:∀{T:Tree},T=(match Q55 std ty true fn.results.toList s with|some (r,ob)=>.leaf .ret ⟨[(0,r)],ob⟩|none=>.stuck 71)->T.ok D P w g ob fn.ntmps (FinOk ob res ob') ->
   Leaves P fn a.tmps (fun e w'=>∃v g',e=.returned v/\Mem w' g' ob'/\ARel w' g' ob' v res/\Step w g ob w' g' ob') a.defers .returning w':=fun qx hq=>by
  cases hr:Q55 std ty true fn.results.toList s with
  |none=>rw[hr]at qx;subst qx;exact(show False from hq).elim
  |some q =>
   obtain⟨r,ob1⟩:=q;rw[hr]at qx;subst qx;obtain⟨ρ,r',l,h1,h2,h3,h4,h5,h6⟩:=(show FinOk ob res ob' .ret ⟨[(0,r)],ob1⟩ from hq);obtain⟨⟨l1,e1,a1⟩,l2,e2,a2⟩:=Q1y h4 h5;have hF:Fits ob1 ob' ρ:=Q2B _ _ _ e2 a2;obtain⟨v,g',k1,k2,k3,k4⟩:=Q7j hT hs hr;rw[hs.defers];exact hI _ _ _ ⟨v,k1,v,g'.ren ρ,rfl,k2.ren hF h1,Q6a (Q4X hF h1 k3 e1 a1) h6,Q5x hF h1 h2 h3 k4⟩
 cases e with
 |normal=>exact fin rfl hq
 |ret=>exact fin rfl hq
 |exit i=>exact(show False from hq).elim
 |pan v=>exact(by have hq:FinOk ob res ob' (.pan v) s:=hq;unfold FinOk at hq;rw[ht v rfl]at hq;exact hq.elim)
theorem QhE{tab:Nat->Option FnI}{base:Nat->List AV->List Ob->Option (AV×List Ob)}{ask:Nat->List Srt->Bool}{lf:Nat}(ht:∀f F,tab f=some F->f<1000000/\F.good f)(hb:∀f a o r o',base f a o=some (r,o')->f<1000000/\BCall prog f a o r o')
  (ha:∀T sh,ask T sh=true->QbQ prog T sh/\Q7l prog T sh) (n:Nat) {f:Nat} {fn:Func} {c0 c:Code} {args:List AV} {ob:List Ob} {r:AV} {o':List Ob} (hf:prog.funcs[f]?=some fn) (pT:fn.body=some c0) (ord:Nat->OT)
  (hk : (Q1g fn.ntmps c && (Q1e .any tys ord c && !(fn.name == "runtime.NumGoroutine"))) = true) (s1 : St)
  (h0:∀(w:World)(g:Gh)(vs:List Value),Mem w g ob->Q1D w g ob vs args->∃D,QjA prog fn D /\
    ∀Q,(∀a w',Sim D w g ob fn.ntmps s1 a w'->c.wp prog Q a w')->c0.wp prog Q { tmps:=vs.toArray++Array.replicate (fn.ntmps-vs.toArray.size) undef,defers:=[] } w)
  (h:Q3x (Qdh ob) ask (lpF ask tys (gd (Q4p tab base ask lf n)) ord lf) (QU std tys (gd (Q4p tab base ask lf n)) ord c (Q5o std tys true fn.results.toList) s1)=some (r,o')):BCall prog f args ob r o':=by
 have ih:=Q2k ht hb ha n (lf:=lf)
 have vh:∀g a ob r o',gd (Q4p tab base ask lf n) g a ob=some (r,o')->Q4p tab base ask lf n g a ob=some (r,o')/\∀t,r≠.tup (.dead::t):=fun g a ob r o' h=>by
  unfold gd at h;split at h
  ·cases h
  ·rename_i jL
   exact⟨h,fun t e=>jL t o' (by rw[<-e];exact h)⟩
 have hcs:∀o g a ob r o',Q6E (gd (Q4p tab base ask lf n)) o g a ob=some (r,o')->BCall prog g a ob r o'/\∀t,r≠.tup (.dead::t):=fun o g a ob r o' h=>by
  unfold Q6E at h;split at h
  ·rename_i r1 h1
   obtain rfl:r1=(r,o'):=by simpa using h
   exact⟨(ih _ _ _ _ _ (vh _ _ _ _ _ h1).1).2,(vh _ _ _ _ _ h1).2⟩
  ·split at h
   ·have:=(ih _ _ _ _ _ (vh _ _ _ _ _ h).1).1
    omega
   ·cases h
 simp only[Bool.and_eq_true,Bool.not_eq_true']at hk;refine Qe3 (cs:=gd (Q4p tab base ask lf n)) (ord:=ord) Q5W QbC hf pT (enters_of hf hk.2.2 pT) hk.1 hk.2.1 s1 h0 fun D w0 g0=>?_
 refine QfB (fin:=Qdh ob) (lp:=lpF ask tys (gd (Q4p tab base ask lf n)) ord lf) (B:=fun b=>Q1g fn.ntmps b=true/\Q1e .any tys ord b=true) ha (fun body s e s' hB hl a w hs=>?_) (fun e s hf=>QfJ hf) _ (Q8i hcs c _ hk.1 hk.2.1 (fun e s=>?_) _) h
 ·refine wp_mono (wp_loop_rounds lf (Q8a Q5W QbC ha hcs lf body s e s' hB hl a w hs)) fun x a' w' hx=>?_
  exact⟨e,s',hx.1,fun v hv=>absurd hv (Q9c lf _ _ _ _ hl v),hx.2,rfl,rfl⟩
 ·unfold Q5o
  split
  ·trivial
  ·trivial
  ·split<;>trivial
structure BE where
 f:Nat
 args:List AV
 ob:List Ob
 res:AV
 ob':List Ob
def Qgk:List BE->Nat->List AV->List Ob->Option (AV×List Ob)
 | [],_,_,_=>none
 |e::r,f,a,o=>match Nat.beq f e.f&&(Q6X (aEq 40) e.args a&&Q6X oEq e.ob o)with
  |true=>some (e.res,e.ob')
  |false=>Qgk r f a o
def Q4R:List BE->Prop
 | []=>True
 |e::r=>(Nat.ble (e.f+1) 1000000=true/\BCall prog e.f e.args e.ob e.res e.ob')/\Q4R r
theorem Q7J:∀{L:List BE},Q4R L->∀f a o r o',Qgk L f a o=some (r,o')->f<1000000/\BCall prog f a o r o'
 | [],_,_,_,_,_,_,h=>by cases h
 |e::r,hg,f,a,o,x,o',h=>by
  unfold Qgk at h;split at h
  ·rename_i hb
   simp only[Bool.and_eq_true]at hb;obtain⟨h1,h2,h3⟩:=hb;obtain⟨rfl,rfl⟩:e.res=x/\e.ob'=o':=by simpa using h
   rw[Nat.eq_of_beq_eq_true h1,<-Q2w (Q5F 40) _ _ h2,<-Q2w (fun _ _=>QeN) _ _ h3]
   exact⟨Nat.le_of_ble_eq_true hg.1.1,hg.1.2⟩
  ·exact Q7J hg.2 f a o x o' h
theorem Q1K:∀T sh,Q61 T sh=true->QbQ prog T sh/\Q7l prog T sh:=fun _ _ h=>by cases h
theorem Qew(p:Addr)(w:World) :
  CallsD prog 56 #[.pointer (some p)] .returning w fun e u' w'=>e=.returned (.tuple #[])/\u'=.returning/\w'=w:=by
 refine callsD_of_wpS func56 rfl fun c₀ cs hu=>?_
 apply wpS_seq;apply wpS_region;simp[wpOpsS,go_sem,recoverD,hu,ntmps56,Exit.thenS];refine wpS_of_wp ?_;rw[show(#[Value.pointer (some p)]++((Array.replicate 22 undef).setIfInBounds 4 Value.nilIface).setIfInBounds 0 Value.nilIface)=#[.pointer (some p),.nilIface,undef,undef,undef,.nilIface,undef,undef,undef,undef,undef,undef,undef,undef,undef,undef,undef,undef,undef,undef,undef,undef,undef] by kernel_rfl]
 go_wp2
 cases c₀;simp_all [bodyPostS,results,results56]
def zRes:List Value:=[.int .i64 0,.int .i64 0,.int .i64 0,.string ⟨#[]⟩,.string ⟨#[]⟩,.string ⟨#[]⟩,.slice none 0 0,.slice none 0 0,.string ⟨#[]⟩,.string ⟨#[]⟩,.slice none 0 0,.int .i64 0,.bool false]
def Q72(b:List UInt8)(k:Int):St:=⟨[(4,.box 0 0),(0,.slc 1 (Q5 b)),(1,.val (.int .i64 k))],[.box (zRes.map .val)]⟩
def Qcj(w:World):List Deferred:=[{ target:=.fn (.func 56) #[.pointer (some ⟨w.heap.size,0,none⟩)],args:=#[] }]
theorem Qd4(w:World):QjA prog f44 (Qcj w):=fun tmps R w1 ⟨v,h1,h2⟩=>by
 refine leaves_cons (f:=56) (args:=#[.pointer (some ⟨w.heap.size,0,none⟩)]) (by simp) (by simp[go_sem]) ?_
 refine(Qew ⟨w.heap.size,0,none⟩ w1).mono ?_;rintro e u' w'' ⟨rfl,rfl,rfl⟩;exact⟨v,h1,h2⟩
theorem QdK(b:List UInt8)(k:Int)(c:Code)(w:World)(g:Gh)(vs:List Value)(M:Mem w g [])(hL:Q1D w g [] vs [.slc 1 (Q5 b),.val (.int .i64 k)])(Q:Exit->Act->World->Prop)
  (hQ:∀a w',Sim (Qcj w) w g [] f44.ntmps (Q72 b k) a w'->c.wp prog Q a w') :
  (Code.seq (.region 0 #[{ dst := some 4, op := .alloc 93, type := 0, pos := "check.go:166", after := #[], guard := none }] false) (.seq (.region 1 #[{ dst := some 6, op := .makeFunc (.func 56) #[] #[.tmp 4], type := 1, pos := "check.go:167", after := #[], guard := none },
    { dst := none, op := .defer { callee := .value (.tmp 6), args := #[], argTypes := #[] }, type := 0, pos := "check.go:167", after := #[{ on := 0, ground := .data }], guard := none }] false) c)).wp prog Q { tmps := vs.toArray ++ Array.replicate (f44.ntmps - vs.toArray.size) undef, defers := [] } w := by
 obtain⟨v1,vs1,rfl,h1,hL⟩:=Qt hL;obtain⟨v2,vs2,rfl,h2,hL⟩:=Qt hL;obtain rfl:=Q1i hL;obtain rfl:=Q1G h2;have hQ':∀a w',Sim (Qcj w) w g [] 40 (Q72 b k) a w'->c.wp prog Q a w':=hQ;rw[ntmps44];go_wp2
 have M1:Mem (w.alloc (.cells #[.int .i64 0,.int .i64 0,.int .i64 0,.string ⟨#[]⟩,.string ⟨#[]⟩,.string ⟨#[]⟩,.slice none 0 0,.slice none 0 0,.string ⟨#[]⟩,.string ⟨#[]⟩,.slice none 0 0,.int .i64 0,.bool false] 93)) (g.new w []) [.box (zRes.map .val)] :=
  M.new _ _ (fun cs h=>by cases h;exact⟨_,_,rfl,Q7f (zs:=zRes) rfl⟩) (fun cs h=>by cases h) (fun y h=>by cases h) (fun et sz fz e xs h=>by cases h)
 have S1:Step w g [] (w.alloc (.cells #[.int .i64 0,.int .i64 0,.int .i64 0,.string ⟨#[]⟩,.string ⟨#[]⟩,.string ⟨#[]⟩,.slice none 0 0,.slice none 0 0,.string ⟨#[]⟩,.string ⟨#[]⟩,.slice none 0 0,.int .i64 0,.bool false] 93)) (g.new w []) [.box (zRes.map .val)]:=Step.new M _ _;have l0:(g.new w []).loc 0=w.heap.size:=by simp[Gh.new]
 obtain⟨A,hA⟩:=exq (#[v1,Value.int IntKind.i64 k]++((Array.replicate 38 undef).setIfInBounds 2 (Value.pointer (some { block:=w.heap.size,off:=0 }))).setIfInBounds 4 (Value.func (Fn.func 56) #[] #[Value.pointer (some { block:=w.heap.size,off:=0 })]));have e0:A.getD 0 undef=v1:=by rw[hA];kernel_rfl
 have e1:A.getD 1 undef=.int .i64 k:=by rw[hA];kernel_rfl
 have e4:A.getD 4 undef=.pointer (some ⟨w.heap.size,0,none⟩):=by rw[hA];kernel_rfl
 have es:A.size=40:=by rw[hA];simp
 rw[<-hA];clear hA;refine hQ' _ _ ⟨rfl,es,g.new w [],M1,fun t=>?_,S1⟩
 show ARel _ _ _ (A.getD t undef) (lk t (Q72 b k).tm);by_cases t0:t=0
 ·subst t0
  rw[e0];exact(ARel1.ext S1.ext h1).to
 by_cases t1:t=1
 ·subst t1
  rw[e1];exact ARel.mkVal rfl
 by_cases t4:t=4
 ·subst t4
  rw[e4,<-l0];have hb:∀W,ARel0 W (g.new w []) [.box (zRes.map .val)] (.pointer (some ⟨(g.new w []).loc 0,0,none⟩)) (.box 0 0):=fun W=>⟨rfl,trivial⟩
  exact hb w
 rw[show lk t (Q72 b k).tm=.dead by simp[Q72,lk,t0,t1,t4]]
 trivial
theorem Qnx:(prog.info? 5).map (fun i=>(i.zero,i.size,i.bytes))=some (some (.int .u8 0),1,1):=by kernel_rfl
theorem Qhm(n:Nat)(w:World)(hn:n<=1000000000) :
  Calls prog 77 #[.slice none 0 0,.int .i64 n] w fun e w'=>∃v,e=.returned v/\w'.ownsRow w.heap.size 5 1 v 0 []/\Below w.heap.size w w':=by
 obtain⟨i0,hi,hz0,hz1,hz2⟩:=info_parts Qnx;rcases Nat.eq_zero_or_pos n with rfl|h0
 ·go_enter func77,ntmps77
  go_wp2
  go_ret
  exact⟨_,rfl,World.ownsRow_nil _ _ _ _,Below.refl _ _⟩
 ·have hrz:∀ty,(Builtin.append_ #[64,3] ty #[.slice none 0 0,.int .i64 (n:Int)]).run prog w =
    .ok (.slice (some ⟨w.heap.size,0,none⟩) n (grownCap w n 0 5)) (w.drew.alloc (.cells (Builtin.zeroCells (Value.int .u8 0).cells n++Builtin.zeroCells (Value.int .u8 0).cells (grownCap w n 0 5-n)) 5)):=fun ty =>
   Lib.run_append_nil_zeros w 64 3 ty 5 i0 _ .i64 .i64 underlying64 underlying3 hi hz0 n h0 (by omega) (by omega) (by rw[hz2];omega)
  have hG:=grownCap_ge w n 0 5;have hG63:=grownCap_le_maxLen w n 0 5 (by unfold maxLen;omega)
  have hown:(w.drew.alloc (.cells (Builtin.zeroCells (Value.int .u8 0).cells n++Builtin.zeroCells (Value.int .u8 0).cells (grownCap w n 0 5-n)) 5)).ownsRow w.heap.size 5 1 (.slice (some ⟨w.heap.size,0,none⟩) 0 (grownCap w n 0 5)) 0 [] :=
   ⟨by simp,.inr ⟨w.heap.size,_,_,rfl,le_refl _,heap_alloc_new w.drew _,zero_le _,hG63,by
    simp only[Array.size_append,size_zeroCells];have:(Value.int IntKind.u8 0).cells.size=1:=rfl
    rw[this];omega,by simp⟩⟩
  have hG64:grownCap w n 0 5<=9223372036854775807:=hG63;generalize grownCap w n 0 5=G at hrz hG hG64 hown;generalize Builtin.zeroCells (Value.int .u8 0).cells n++Builtin.zeroCells (Value.int .u8 0).cells (G-n)=Z at hrz hown;have HOWN:=Lib.hid hown;clear hown hG63 hi hz0 hz1 hz2;have h2:¬((n:Int)<0):=by omega
  go_enter func77,ntmps77
  go_wp2_with (at_builtin;refine Lib.wpList_append_run _ rfl _ _ _ _ rfl _ _ rfl rfl _ _ (hrz _) ?_);go_ret
  exact⟨_,rfl,HOWN.out,(Below.refl _ w).drew.alloc (le_refl _) _⟩
def Gh.row0(g:Gh)(b0:Option Nat):Gh:={ A:=g.A,G:=fun b=>if b0=some b then some 0 else none,loc:=g.loc,sub:=fun _=>false }
theorem QjE{f et:Nat}{args:List AV}(he:∀vs w,(callFunc f vs).run prog w=.ok (.enter f vs) w)
  (h:∀(w:World)(g:Gh)(vs:List Value),Mem w g []->Q1D w g [] vs args->Calls prog f vs.toArray w fun e w'=>∃v,e=.returned v/\w'.ownsRow w.heap.size et 1 v 0 []/\Below w.heap.size w w') :
  BCall prog f args [] (.row 0 0) [.row et 1 false 0 []]:=by
 refine⟨he,fun w g vs M hL=>(h w g vs M hL).mono fun e w' ⟨v,h2,h3,hb⟩=>?_⟩
 have hG:∀b,g.G b=none:=fun b=>by
  cases h:g.G b with
  |none=>rfl
  |some id=>exact absurd (M.own b id h).2 (by simp)
 have hv:∀b,v.ownBlock=some b->w.heap.size<=b/\b<w'.heap.size:=fun b hb=>by
  rcases h3.2 with ⟨rfl,_⟩|⟨b',cap,cur,rfl,h4,h5,_⟩
  ·cases hb
  ·obtain rfl:b'=b:=by simpa[Value.ownBlock]using hb
   exact⟨h4,(Array.getElem?_eq_some_iff.1 h5).1⟩
 have hone:v.oneCell'=true:=by
  rcases h3.2 with ⟨rfl,_⟩|⟨b',cap,cur,rfl,_⟩<;>rfl
 have h30:w'.ownsRow 0 et 1 v 0 []:=by
  exact⟨h3.1,h3.2.imp_right fun⟨b',cap,cur,e,h4,h5⟩=>⟨b',cap,cur,e,zero_le _,h5⟩⟩
 have hw:∀x∈([]:List AV),x.cells.length=1:=fun x hx=>by cases hx
 have E:Ext w g [] w' (g.row0 v.ownBlock) [.row et 1 false 0 []] :=
  ⟨fun b o h=>⟨h,World.cell?_of_block (w:=w) (hb.block b (M.imm b o h).1)⟩,fun _ _=>rfl,fun id h=>absurd (Q2O h) (by simp),fun id h=>absurd (Q3X h) (by simp),fun id et sz fz e xs h=>by simp at h,fun b id h=>by rw[hG]at h;cases h⟩
 refine⟨v,g.row0 v.ownBlock,h2,⟨fun id cs h=>?_,fun id cs h=>?_,fun id y h=>?_,fun b id h=>?_,fun b o h=>?_,fun id et sz fz e xs h=>?_,fun b h=>(by cases h),fun b b' id h h' _ _=>?_⟩,?_,?_⟩
 ·cases id<;>simp at h
 ·cases id<;>simp at h
 ·cases id<;>simp at h
 ·simp only[Gh.row0]at h
  split at h
  ·rename_i h0;cases h;exact⟨(hv b h0).2,by simp⟩
  ·cases h
 ·have h1:=(M.imm b o h).1
  refine⟨lt_of_lt_of_le h1 hb.size,fun id h2=>?_⟩
  simp only[Gh.row0]at h2;split at h2
  ·rename_i h0;have:=(hv b h0).1;omega
  ·cases h2
 ·cases id with
  |zero=>cases h;exact⟨Nat.zero_lt_one,hw⟩
  |succ id=>simp at h
 ·simp only[Gh.row0]at h h'
  split at h
  ·split at h'
   ·rename_i h0 h1;rw[h0]at h1;cases h1;rfl
   ·cases h'
  ·cases h
 ·refine⟨hone,_,_,_,_,_,rfl,le_refl _,fun _=>⟨[],h30,fun b h0=>(by simp[Gh.row0,h0]),Alike.nil,hw,fun b _=>rfl,fun _ j y h=>(by simp at h)⟩⟩
 ·exact⟨hb.os,hb.tape,hb.output,hb.size,fun b h1 _=>hb.block b h1,fun b id h=>(by
   simp only[Gh.row0]at h;split at h
   ·rename_i h0;exact .inr (hv b h0).1
   ·cases h),fun b o h=>.inl h,E,zero_le _⟩
theorem Qln(n:Nat)(hn:n<=1000000000):BCall prog 77 [.val (.slice none 0 0),.val (.int .i64 n)] [] (.row 0 0) [.row 5 1 false 0 []]:=by
 refine QjE (enters_of func77 (by kernel_rfl) rfl) fun w g vs M hL=>?_
 obtain⟨v1,vs1,rfl,h1,hL⟩:=Qt hL;obtain⟨v2,vs2,rfl,h2,hL⟩:=Qt hL;obtain rfl:=Q1i hL;obtain rfl:=Q1G h1;obtain rfl:=Q1G h2;exact Qhm n w hn
end
section
open Tryz
section
variable {w:World}{g:Gh}{v:Value}
theorem Q26{l:List Int}(h:ARel1 w g [] v (.slc 1 (Q0 l)))(M:Mem w g []):∃A c,v=.slice A l.length c/\Rd w (fun _=>True) 1 A l.length c (rc l):=by
 obtain⟨A,c,ys,h1,h2,h3⟩:=QfA h M;have e:Q0 l=(rc l).map .val:=by simp[Q0,rc,Q5U]
 rw[e,Q4d]at h3;obtain rfl:=Q8c h3;rw[Q6]at h1 h2;exact⟨A,c,h1,h2⟩
theorem Qjz{l:List UInt8}(h:ARel1 w g [] v (.slc 1 (Q5 l)))(M:Mem w g []):∃A c,v=.slice A l.length c/\Rd w (fun _=>True) 1 A l.length c (bc l):=by
 obtain⟨A,c,ys,h1,h2,h3⟩:=QfA h M;have e:Q5 l=(bc l).map .val:=by simp[Q5,bc,Q4Q]
 rw[e,Q4d]at h3;obtain rfl:=Q8c h3;rw[Q2W]at h1 h2;exact⟨A,c,h1,h2⟩
end
theorem Qmm(l:List Int)(from_:Int)(p:Int->Bool)(f:Nat)(ef:∀args w,(callFunc f args).run prog w=.ok (.enter f args) w)(hp:∀w,Q3I prog f #[] p w) :
  BCall prog 80 [.slc 1 (Q0 l),.val (.int .i64 from_),.val (.func (.func f) #[] #[])] [] (.val (.int .i64 (Q1R p l from_))) []:=by
 refine BCall.hand (enters_of func80 (by kernel_rfl) rfl) fun w g vs M hL=>?_
 obtain⟨v1,vs1,rfl,h1,hL⟩:=Qt hL;obtain⟨v2,vs2,rfl,h2,hL⟩:=Qt hL;obtain⟨v3,vs3,rfl,h3,hL⟩:=Qt hL;obtain rfl:=Q1i hL;obtain⟨A,c,rfl,hr⟩:=Q26 h1 M;obtain rfl:=Q1G h2;obtain rfl:=Q1G h3;exact(Q6j _ A _ c l from_ f #[] p w ef hr (hp w)).mono fun e w' ⟨h,hb⟩=>⟨_,h,hb,PRel.val _ rfl⟩
theorem Qjf(l:List Int)(k:Int)(h0:0<=k)(hk:k<=1000000000):BCall prog 82 [.slc 1 (Q0 l),.val (.int .i64 k)] [] (.val (.int .i64 (Ql l k.toNat))) []:=by
 refine BCall.hand (enters_of func82 (by kernel_rfl) rfl) fun w g vs M hL=>?_
 obtain⟨v1,vs1,rfl,h1,hL⟩:=Qt hL;obtain⟨v2,vs2,rfl,h2,hL⟩:=Qt hL;obtain rfl:=Q1i hL;obtain⟨A,c,rfl,hr⟩:=Q26 h1 M;obtain rfl:=Q1G h2;have:=Q6l _ A _ c l k.toNat w hr (by omega)
 rw[Int.toNat_of_nonneg h0]at this;exact this.mono fun e w' ⟨h,hb⟩=>⟨_,h,hb,PRel.val _ rfl⟩
theorem Q7O(l:List Int)(hl:l.length<=1000000000)(k:Int)(h0:0<=k)(hk:k<=l.length)(s:ByteArray)(hs:s.size<=1000000000):BCall prog 11 [.slc 1 (Q0 l),.val (.int .i64 k),.val (.string s)] [] (.val (.bool (Q7 l k.toNat s.data.toList))) []:=by
 refine BCall.hand (enters_of func11 (by kernel_rfl) rfl) fun w g vs M hL=>?_
 obtain⟨v1,vs1,rfl,h1,hL⟩:=Qt hL;obtain⟨v2,vs2,rfl,h2,hL⟩:=Qt hL;obtain⟨v3,vs3,rfl,h3,hL⟩:=Qt hL;obtain rfl:=Q1i hL;obtain⟨A,c,rfl,hr⟩:=Q26 h1 M;obtain rfl:=Q1G h2;obtain rfl:=Q1G h3;have:=Q1s _ A _ c l k.toNat s w hr (by omega) hl hs
 rw[Int.toNat_of_nonneg h0]at this;exact this.mono fun e w' ⟨h,hb⟩=>⟨_,h,hb,PRel.val _ rfl⟩
structure Tok where
 kind:Int
 from_:Int
 to:Int
 whole:Bool
 deriving Inhabited
def Tok.av(t:Tok):AV:=.agg [.val (.int .i64 t.kind),.val (.int .i64 t.from_),.val (.int .i64 t.to),.val (.bool t.whole)]
def Q1M(l:List Int)(k:Nat):Tok:=⟨(QZ l k).1,k,(QZ l k).2.1,(QZ l k).2.2⟩
theorem Qnr(l:List Int)(hl:l.length<=1000000000)(k:Int)(h0:0<=k)(hk:k<l.length):BCall prog 92 [.slc 1 (Q0 l),.val (.int .i64 k)] [] (.tup [(Q1M l k.toNat).av,.val (.bool true)]) []:=by
 refine BCall.hand (enters_of func92 (by kernel_rfl) rfl) fun w g vs M hL=>?_
 obtain⟨v1,vs1,rfl,h1,hL⟩:=Qt hL;obtain⟨v2,vs2,rfl,h2,hL⟩:=Qt hL;obtain rfl:=Q1i hL;obtain⟨A,c,rfl,hr⟩:=Q26 h1 M;obtain rfl:=Q1G h2;have:=Qgw _ A _ c l k.toNat w hr (by omega) hl
 rw[Int.toNat_of_nonneg h0]at this;refine this.mono fun e w' ⟨h,hb⟩=>⟨_,h,hb,_,rfl,rfl,fun j y u hy hu=>?_⟩
 match j,hy,hu with
 |0,hy,hu =>
  obtain rfl:Q1t (QZ l k.toNat) k.toNat=y:=by simpa using hy
  obtain rfl:(Q1M l k.toNat).av=u:=by simpa using hu
  refine⟨_,rfl,rfl,fun i y u hy hu=>?_⟩
  match i,hy,hu with
  |0,hy,hu=>cases hy;cases hu;exact⟨PRel.val _ rfl,rfl⟩
  |1,hy,hu=>cases hy;cases hu;exact⟨PRel.val _ rfl,rfl⟩
  |2,hy,hu=>cases hy;cases hu;exact⟨PRel.val _ rfl,rfl⟩
  |3,hy,hu=>cases hy;cases hu;exact⟨PRel.val _ rfl,rfl⟩
  |i+4,hy,hu=>simp at hy
 |1,hy,hu =>
  obtain rfl:Value.bool true=y:=by simpa using hy
  obtain rfl:AV.val (.bool true)=u:=by simpa using hu
  exact PRel.val _ rfl
 |j+2,hy,hu=>simp at hy
theorem QhA(l:List Int)(k:Int)(h0:0<=k)(hk:(l.length:Int)<=k):BCall prog 92 [.slc 1 (Q0 l),.val (.int .i64 k)] [] (.tup [.agg [.val (.int .i64 0),.val (.int .i64 0),.val (.int .i64 0),.val (.bool false)],.val (.bool false)]) []:=by
 obtain⟨n,hn⟩:=QC l;have gE:n<=k:=by rw[hn.eq];exact hk
 refine fnN (cs0) func92 rfl fun _ _=>?_
 with_reducible refine cv1 (Q0 l) ?_
 have en:=hn.eq;have qI:=Q6 l;with_reducible repeat' first|refine aU (zA qI h0) ?_|refine And.intro ?_ ?_|intro hb
 exact .pure rfl ⟨⟨.inl rfl,.inl rfl,.inl rfl,.inl rfl,trivial⟩,.inl rfl,trivial⟩
end
section
variable {w:World}{g:Gh}{ob:List Ob}
def Gh.kid(g:Gh)(w:World)(id:Nat)(b:Option Nat)(n:Nat):Gh where
 A b' o:=g.A b' o\/(b=some b'/\o<n)
 G b':=if b=some b' then some id else g.G b'
 loc:=g.loc
 sub b':=if b=some b' then true else g.sub b'
theorem Qli(M:Mem w g ob){id ep i:Nat}{xs:List AV}(h:ob[id]?=some (.row Q4e 2 false ep xs)){b c:Nat}(hv:RowV w g id Q4e 2 (.slice (some ⟨b,0,none⟩) xs.length c) xs)
  {a u:AV} (hx:xs[i]?=some (.agg [a,u])) {us:List AV} (hu:u=.slc 1 us\/(u=.val (.slice none 0 0)/\us=[])) :
  ∃y zs,w.cell? ⟨b,i * 2+1,none⟩=some y/\w.ownsRow 0 Qh0 1 y us.length zs/\y.oneCell'=true/\Alike w g.A zs (Qp us)/\(∀x∈us,x.cells.length=1)/\∀b',y.ownBlock=some b'->g.G b'=some id/\g.sub b'=true/\(∀o,us.length<=o->¬g.A b' o)/\b'<w.heap.size:=by
 obtain⟨ys,ho,hG,jT,hw,jr,qN⟩:=hv;have yd:=Q4 hx;have qn:=Q22 xs hw;have hj:i * 2+1<ys.length:=by rw[jT.1,qn];omega
 have pU:=getElem?_eq_getElem hj;have hcell:=ho.cells (g:=b) rfl _ _ pU;rw[Addr.add_mid,zero_add]at hcell
 have huj:(Qp xs)[i * 2+1]?=some u:=by
  rw[Q5N xs hw i _ hx 1 (by omega)];rfl
 have hrel:=jT.2 _ _ _ pU huj;generalize ys[i * 2+1]=y at pU hcell hrel;obtain⟨⟨k,zs,h1,h2⟩,h3⟩:=qN rfl _ _ pU (by omega)
 have qh:=hrel.one;-- its length,and its cells by content
 have key:k=us.length/\Alike w g.A zs (Qp us)/\∀x∈us,x.cells.length=1:=by
  rcases hu with rfl|⟨rfl,rfl⟩
  ·cases hrel with
   |nil =>
    rcases h1.2 with ⟨_,h4⟩|⟨b',cap,cur,h4,_⟩
    ·subst h4
     have:zs=[]:=List.eq_nil_of_length_eq_zero (by have:=h1.1;omega)
     subst this;exact⟨rfl,Alike.nil,fun x hx=>by cases hx⟩
    ·cases h4
   |slc b' o c' _ _ f hc hm gy qY qI =>
    rcases h1.2 with ⟨h4,_⟩|⟨b2,cap,cur,h4,h5⟩
    ·cases h4
    ·cases h4
     refine⟨rfl,?_,gy⟩;have kY:=Q22 us gy;have cG:zs.length=us.length * 1:=h1.1;refine⟨by rw[cG,kY],fun j y' u' vA j0=>?_⟩
     have e1:=h1.cells (g:=b') rfl j y' vA;rw[Addr.add_mid,zero_add]at e1;have e2:=(qY j u' j0).2;rw[zero_add,e1]at e2;obtain rfl:y'=f j:=Option.some.inj e2;exact qI j u' j0
  ·cases hrel
   rcases h1.2 with ⟨_,h4⟩|⟨b',cap,cur,h4,_⟩
   ·subst h4
    have:zs=[]:=List.eq_nil_of_length_eq_zero (by have:=h1.1;omega)
    subst this;exact⟨rfl,Alike.nil,fun x hx=>by cases hx⟩
   ·cases h4
 obtain⟨rfl,qC,yp⟩:=key;refine⟨y,zs,hcell,h1,qh,qC,yp,fun b' ye=>?_⟩
 obtain⟨h4,h5,h6⟩:=h2 b' ye;exact⟨h4,h5,h6,(M.own b' id h4).1⟩
theorem QdP:∀(xs:List AV),(∀x∈xs,x.cells.length=2)->∀(i:Nat)(a u u':AV),xs[i]?=some (.agg [a,u])->Qp (xs.set i (.agg [a,u']))=(Qp xs).set (i * 2+1) u'
 | [],_,i,a,u,u',h=>by simp at h
 |x::r,hw,0,a,u,u',h=>by
  obtain rfl:x=.agg [a,u]:=by simpa using h
  rfl
 |x::r,hw,i+1,a,u,u',h=>by
  have ih:=QdP r (fun y hy=>hw y (List.mem_cons_of_mem _ hy)) i a u u' (by simpa using h)
  have hx:=hw x (List.mem_cons_self ..)
  obtain⟨p,q,hpq⟩:∃p q,x.cells=[p,q]:=by
   match x.cells,hx with
   | [p,q],_=>exact⟨p,q,rfl⟩
  have e1:Qp (x::r)=p::q::Qp r:=by simp[hpq]
  have e2:Qp (x::r.set i (.agg [a,u']))=p::q::Qp (r.set i (.agg [a,u'])):=by simp[hpq]
  rw[set_cons_succ,e1,e2,ih,show(i+1) * 2+1=(i * 2+1)+1+1 by omega,set_cons_succ,set_cons_succ]
theorem QlR(M:Mem w g ob){id ep i:Nat}{xs:List AV}(h:ob[id]?=some (.row Q4e 2 false ep xs)){b c:Nat}(hv:RowV w g id Q4e 2 (.slice (some ⟨b,0,none⟩) xs.length c) xs)
  {a u:AV} (hx:xs[i]?=some (.agg [a,u])) {us:List AV} {y:Value} {zs:List Value} (hcell:w.cell? ⟨b,i * 2+1,none⟩=some y) (jG:w.ownsRow 0 Qh0 1 y us.length zs) (jT:Alike w g.A zs (Qp us)) (kW:∀x∈us,x.cells.length=1)
  (yF:∀b',y.ownBlock=some b'->g.G b'=some id/\g.sub b'=true/\(∀o,us.length<=o->¬g.A b' o)/\b'<w.heap.size)
  {w1 w2:World} {v':Value} {n:Int} (zB:Below w.heap.size w w1) (kU:w2.ownsRow 0 Qh0 1 v' (us.length+1) (zs++[.int .i64 n])) (hg:w1.grownBy w2 y.ownBlock) (yE:v'.ownBlock=y.ownBlock\/v'.ownBlock=some w1.heap.size)
  (yO:∀bb kk,bb<w1.heap.size->(y.ownBlock=some bb->kk<us.length * 1)->w2.cell? ⟨bb,kk,none⟩=w1.cell? ⟨bb,kk,none⟩) :
  ∃g3,Mem (w2.setCells b (i * 2+1) [v']) g3 (ob.set id (.row Q4e 2 false (ep+1) (xs.set i (.agg [a,.slc 1 (us++[.val (.int .i64 n)])])))) /\
   Step w g ob (w2.setCells b (i * 2+1) [v']) g3 (ob.set id (.row Q4e 2 false (ep+1) (xs.set i (.agg [a,.slc 1 (us++[.val (.int .i64 n)])])))) /\
   RowV (w2.setCells b (i * 2+1) [v']) g3 id Q4e 2 (.slice (some ⟨b,0,none⟩) xs.length c) (xs.set i (.agg [a,.slc 1 (us++[.val (.int .i64 n)])])):=by
 obtain⟨w3,zL⟩:=exq (w2.setCells b (i * 2+1) [v']);obtain⟨g3,yW⟩:=exq (g.kid w id v'.ownBlock (us.length+1));rw[<-zL];have hid:=Q4 h;have yd:=Q4 hx;obtain⟨ys,ho,hG,kQ,kS,jr,qN⟩:=hv;have qR:=hG b rfl;have vj:=jr b rfl;have jV:=(M.own b id qR).1;-- blocks: the main one,the slice's,what is new
 have gY:∀b',y.ownBlock=some b'->b'≠b:=fun b' hb e=>by
  have:=(yF b' hb).2.1
  rw[e,vj]at this;cases this
 have qy:∀b',v'.ownBlock=some b'->(y.ownBlock=some b'/\b'<w.heap.size)\/w.heap.size<=b':=fun b' hb=>by
  rcases yE with e|e
  ·rw[e]at hb;exact .inl ⟨hb,(yF b' hb).2.2.2⟩
  ·rw[e]at hb;cases hb;exact .inr zB.size
 have keep:∀b',b'<w.heap.size->b'≠b->y.ownBlock≠some b'->w3.heap[b']?=w.heap[b']?:=fun b' h1 h2 h3=>by
  rw[zL,QH (k:=0) h2,hg.block b' (lt_of_lt_of_le h1 zB.size) (fun e=>h3 e.symm),zB.block b' h1]
 have keepc:∀b' o,b'<w.heap.size->b'≠b->(y.ownBlock=some b'->o<us.length)->w3.cell? ⟨b',o,none⟩=w.cell? ⟨b',o,none⟩:=fun b' o h1 h2 h3=>by
  rw[zL,World.cell?_of_block (w:=w2) (QH (k:=0) h2),yO b' o (lt_of_lt_of_le h1 zB.size) (fun e=>by have:=h3 e;omega),World.cell?_of_block (w:=w) (zB.block b' h1)]
 have j6:w.heap.size<=w3.heap.size:=by
  rw[zL,Q1o];exact Nat.le_trans zB.size hg.size
 have nomain:∀o,¬g.A b o:=fun o hA=>by
  obtain⟨et,sz,e,xs2,h1,_⟩:=(M.imm b o hA).2 id qR vj;rw[h]at h1;cases h1
 have hA:∀b' o,g.A b' o->w3.cell? ⟨b',o,none⟩=w.cell? ⟨b',o,none⟩:=fun b' o h1=>by
  refine keepc b' o (M.imm b' o h1).1 (fun e=>nomain o (e ▸ h1)) (fun e=>?_)
  refine Nat.lt_of_not_le fun h2=>(yF b' e).2.2.1 o h2 h1
 have oldG:∀b',b'<w.heap.size->g3.G b'=g.G b':=fun b' h1=>by
  rw[yW];show(if v'.ownBlock=some b' then some id else g.G b')=_
  split
  ·rename_i e
   rcases qy b' e with ⟨h2,_⟩|h2
   ·exact((yF b' h2).1).symm
   ·omega
  ·rfl
 have oldS:∀b',b'<w.heap.size->g3.sub b'=g.sub b':=fun b' h1=>by
  rw[yW];show(if v'.ownBlock=some b' then true else g.sub b')=_
  split
  ·rename_i e
   rcases qy b' e with ⟨h2,_⟩|h2
   ·exact((yF b' h2).2.1).symm
   ·omega
  ·rfl
 have newA:∀b' o,g3.A b' o->g.A b' o\/(v'.ownBlock=some b'/\o<us.length+1):=fun b' o h1=>by rw[yW]at h1;exact h1
 have upA:∀b' o,g.A b' o->g3.A b' o:=fun b' o h1=>by rw[yW];exact .inl h1
 have G3:∀b' k,g3.G b'=some k->(b'<w.heap.size/\g.G b'=some k)\/(v'.ownBlock=some b'/\k=id):=fun b' k h1=>by
  rw[yW]at h1;have h1:(if v'.ownBlock=some b' then some id else g.G b')=some k:=h1;split at h1
  ·rename_i e;exact .inr ⟨e,(Option.some.inj h1).symm⟩
  ·exact .inl ⟨(M.own b' k h1).1,h1⟩
 have vlt:∀b',v'.ownBlock=some b'->b'<w3.heap.size:=fun b' hb=>by
  rw[zL,Q1o];exact(kU.lt b' hb).2
 -- other rows and boxes
 have other:∀b' k,g.G b'=some k->k≠id->w3.heap[b']?=w.heap[b']?:=fun b' k h1 h2=>by
  refine keep b' (M.own b' k h1).1 (fun e=>?_) (fun e=>?_)
  ·rw[e,qR]at h1;exact h2 (Option.some.inj h1).symm
  ·rw[(yF b' e).1]at h1;exact h2 (Option.some.inj h1).symm
 have E:Ext w g ob w3 g3 (ob.set id (.row Q4e 2 false (ep+1) (xs.set i (.agg [a,.slc 1 (us++[.val (.int .i64 n)])])))):=by
  refine⟨fun b' o h1=>⟨upA b' o h1,hA b' o h1⟩,fun _ _=>by rw[yW];rfl,fun k hk=>?_,fun k hk=>?_,fun k et sz fz e xs2 hk=>?_,fun b' k ku hs=>?_⟩
  ·have:k≠id:=by rintro rfl;rw[h]at hk;exact hk
   rw[getElem?_set_ne (Ne.symm this)];exact hk
  ·have:k≠id:=by rintro rfl;rw[h]at hk;exact hk
   rw[getElem?_set_ne (Ne.symm this)];exact hk
  ·by_cases e':k=id
   ·subst e'
    rw[h]at hk;cases hk;exact⟨false,ep+1,_,getElem?_set_self hid,by omega,fun h1=>by omega⟩
   ·exact⟨fz,e,xs2,by rw[getElem?_set_ne (Ne.symm e')];exact hk,le_refl _,fun _=>.inl ⟨rfl,fun b' ye=>⟨by rw[oldG b' (M.own b' k ye).1];exact ye,other b' k ye e'⟩⟩⟩
  ·have e':k≠id:=by
    rintro rfl;obtain⟨et,sz,fz,fz',e,xs2,xs3,h1,h2⟩:=hs;rw[h]at h1;cases h1;rw[getElem?_set_self hid]at h2;have:=Option.some.inj h2
    injection this with _ _ _ h3
    omega
   refine⟨oldS b' (M.own b' k ku).1,fun _ o h1=>?_⟩
   rcases newA b' o h1 with h2|⟨h2,_⟩
   ·exact h2
   ·rcases qy b' h2 with ⟨h3,_⟩|h3
    ·rw[(yF b' h3).1]at ku;exact absurd (Option.some.inj ku).symm e'
    ·have:=(M.own b' k ku).1;omega
 have jY:RowV w3 g3 id Q4e 2 (.slice (some ⟨b,0,none⟩) xs.length c) (xs.set i (.agg [a,.slc 1 (us++[.val (.int .i64 n)])])):=by
  have nw:∀b',v'.ownBlock=some b'->b'≠b:=fun b' hb=>by
   rcases qy b' hb with ⟨h1,_⟩|h1
   ·exact gY b' h1
   ·omega
  have gp:w3.ownsRow 0 Qh0 1 v' (us.length+1) (zs++[.int .i64 n]):=Q2U kU fun b' hb=>by rw[zL];exact QH (k:=0) (nw b' hb)
  have qn:=Q22 xs kS;have vY:i * 2+1<ys.length:=by rw[kQ.1,qn];omega
  have hfs:=QdP xs kS i a u (.slc 1 (us++[.val (.int .i64 n)])) hx;have qJ:(us++[AV.val (.int .i64 n)]).length=us.length+1:=by simp
  have gy:∀x∈us++[AV.val (.int .i64 n)],x.cells.length=1:=fun x hx=>by
   rcases List.mem_append.1 hx with h1|h1
   ·exact kW x h1
   ·obtain rfl:x=.val (.int .i64 n):=by simpa using h1
    rfl
  have hfa:Qp (us++[AV.val (.int .i64 n)])=Qp us++[.val (.int .i64 n)]:=by simp[AV.cells]
  have kL:Alike w3 g3.A (zs++[.int .i64 n]) (Qp (us++[AV.val (.int .i64 n)])):=by
   rw[hfa];refine(jT.keep E.A).append ⟨rfl,fun j y' u' h1 h2=>?_⟩
   cases j with
   |zero =>
    obtain rfl:Value.int .i64 n=y':=by simpa using h1
    obtain rfl:AV.val (.int .i64 n)=u':=by simpa using h2
    exact PRel.val _ rfl
   |succ j=>simp at h1
  have hvP:PRel w3 g3.A v' (.slc 1 (us++[.val (.int .i64 n)])):=by
   rcases gp.2 with ⟨_,h1⟩|⟨b',cap,cur,h1,h2,h3,h4,h5,h6,h7⟩
   ·omega
   ·subst h1
    rw[<-qJ]at h4 gp ⊢;have cG:(zs++[Value.int .i64 n]).length=(us++[AV.val (.int .i64 n)]).length * 1:=gp.1;have kY:=Q22 (us++[AV.val (.int .i64 n)]) gy
    have get:∀(j:Nat) u',(Qp (us++[AV.val (.int .i64 n)]))[j]?=some u'->j<(zs++[Value.int .i64 n]).length/\(zs++[Value.int .i64 n])[j]?=some ((zs++[Value.int .i64 n]).getD j undef):=fun j u' j0=>by
     have h8:=Q4 j0;rw[kY]at h8;have h9:j<(zs++[Value.int .i64 n]).length:=by omega
     exact⟨h9,by rw[getD_eq_getElem?_getD,getElem?_eq_getElem h9];rfl⟩
    refine PRel.slc b' 0 cap 1 _ (fun j=>(zs++[Value.int .i64 n]).getD j undef) h4 h5 gy (fun j u' j0=>⟨?_,?_⟩) (fun j u' j0=>?_)
    ·rw[yW]
     refine .inr ⟨rfl,?_⟩;have:=(get j u' j0).1
     rw[cG,qJ]at this;omega
    ·have:=gp.cells (g:=b') rfl j _ (get j u' j0).2
     rw[Addr.add_mid,zero_add]at this;rw[zero_add];exact this
    ·exact kL.2 j _ u' (get j u' j0).2 j0
  rcases ho.2 with ⟨h1,_⟩|⟨b0,cap,cur,h1,h2,h3,h4,h5,h6,h7⟩
  ·cases h1
  ·cases h1
   have pV:w2.heap[b]?=some (.cells cur Q4e (0,0)):=by
    rw[hg.block b (lt_of_lt_of_le jV zB.size) (fun e=>gY b e.symm rfl),zB.block b jV]
    exact h3
   have hjc:i * 2+1<cur.size:=by
    have:ys.length<=cur.size:=by rw[<-h7,length_take];simp;omega
    omega
   have pW:=Q1V (W:=w2) [v'] (i * 2+1) w2 cur pV (by simp;omega)
   have yf:cur.toList.take (i * 2+1)++([v']++cur.toList.drop (i * 2+1 + [v'].length))=cur.toList.set (i * 2+1) v':=by
    rw[List.set_eq_take_append_cons_drop,if_pos (by simpa using hjc)]
    rfl
   rw[yf]at pW;refine⟨ys.set (i * 2+1) v',⟨by rw[length_set,length_set];exact ho.1,.inr ⟨b,c,(cur.toList.set (i * 2+1) v').toArray,by rw[length_set],zero_le _,by rw[zL];exact pW,by rw[length_set];exact h4,h5,by simpa using h6,?_⟩⟩,fun b' hb=>?_,?_,?_,fun b' hb=>?_,fun _ j y' vA hj=>?_⟩
   ·rw[length_set]
    show((cur.toList.set (i * 2+1) v').toArray.toList).take _=_
    rw[List.toList_toArray,List.take_set,h7]
   ·obtain rfl:b=b':=by simpa[Value.ownBlock]using hb
    rw[oldG b jV];exact qR
   ·rw[hfs]
    refine⟨by rw[length_set,length_set];exact kQ.1,fun j y' u' h8 h9=>?_⟩
    by_cases e:j=i * 2+1
    ·subst e
     rw[getElem?_set_self vY]at h8;rw[getElem?_set_self (by rw[<-kQ.1];exact vY)]at h9
     cases h8;cases h9;exact hvP
    ·rw[getElem?_set_ne (Ne.symm e)]at h8 h9
     exact(kQ.2 j y' u' h8 h9).keep E.A
   ·intro x vt
    rcases List.mem_or_eq_of_mem_set vt with h1|h1
    ·exact kS x h1
    ·rw[h1];rfl
   ·obtain rfl:b=b':=by simpa[Value.ownBlock]using hb
    rw[oldS b jV];exact vj
   ·have hy0:ys[i * 2+1]?=some y:=by
     have e1:=getElem?_eq_getElem vY;have e2:=ho.cells (g:=b) rfl _ _ e1;rw[Addr.add_mid,zero_add,hcell]at e2;rw[e1,<-Option.some.inj e2]
    -- a block that another one owns
    have oldne:∀(j:Nat) y',ys[j]?=some y'->j % 2=1->j≠i * 2+1->∀b',y'.ownBlock=some b'->v'.ownBlock≠some b'/\y.ownBlock≠some b'/\b'≠b/\b'<w.heap.size:=fun j y' h8 h9 qX b' hb=>by
     obtain⟨⟨k,zs',v8,gC⟩,gz⟩:=qN rfl j y' h8 h9;obtain⟨gP,xQ,_⟩:=gC b' hb;have gZ:y.ownBlock≠some b':=fun e=>qX (gz _ y b' hy0 (by omega) e hb).symm
     have jE:=(M.own b' id gP).1;refine⟨fun e=>?_,gZ,fun e=>?_,jE⟩
     ·rcases qy b' e with ⟨pX,_⟩|pX
      ·exact gZ pX
      ·omega
     ·rw[e,vj]at xQ;cases xQ
    by_cases e:j=i * 2+1
    ·subst e
     rw[getElem?_set_self vY]at vA;cases vA;refine⟨⟨us.length+1,_,gp,fun b' hb=>⟨?_,?_,fun o vn zJ=>?_⟩⟩,fun k z b' hz hk kT ny=>?_⟩
     ·rw[yW]
      show(if v'.ownBlock=some b' then some id else g.G b')=_
      rw[if_pos hb]
     ·rw[yW]
      show(if v'.ownBlock=some b' then true else g.sub b')=_
      rw[if_pos hb]
     ·rcases newA b' o zJ with h8|⟨_,h8⟩
      ·rcases qy b' hb with ⟨h9,_⟩|h9
       ·exact(yF b' h9).2.2.1 o (by omega) h8
       ·have:=(M.imm b' o h8).1;omega
      ·omega
     ·refine Classical.byContradiction fun jL=>?_
      rw[getElem?_set_ne (Ne.symm jL)]at hz;exact(oldne k z hz hk jL b' kT).1 ny
    ·rw[getElem?_set_ne (Ne.symm e)]at vA
     obtain⟨⟨k,zs',v8,gC⟩,gz⟩:=qN rfl j y' vA hj;refine⟨⟨k,zs',Q2U v8 fun b' hb=>?_,fun b' hb=>?_⟩,fun k' z b' hz gE kT xh=>?_⟩
     ·obtain⟨h8,h9,qX,gP⟩:=oldne j y' vA hj e b' hb
      exact keep b' gP qX h9
     ·obtain⟨h8,h9,qX,gP⟩:=oldne j y' vA hj e b' hb
      obtain⟨xQ,pX,h17⟩:=gC b' hb;refine⟨by rw[oldG b' gP];exact xQ,by rw[oldS b' gP];exact pX,fun o vn zJ=>?_⟩
      rcases newA b' o zJ with h18|⟨h18,_⟩
      ·exact h17 o vn h18
      ·exact h8 h18
     ·by_cases e2:k'=i * 2+1
      ·subst e2
       rw[getElem?_set_self vY]at hz;cases hz;exact absurd kT (oldne j y' vA hj e b' xh).1
      ·rw[getElem?_set_ne (Ne.symm e2)]at hz
       exact gz k' z b' hz gE kT xh
 refine⟨g3,?_,?_,jY⟩
 ·refine⟨fun k cs hk=>?_,fun k cs hk j u hj=>?_,fun k y hk=>?_,fun b' k hk=>?_,fun b' o zJ=>?_,fun k et sz fz e xs2 hk=>?_,fun b' hs=>?_,fun b1 b2 k h1 h2 hs jf=>?_⟩
  ·have e':k≠id:=by rintro rfl;rw[getElem?_set_self hid]at hk;cases hk
   rw[getElem?_set_ne (Ne.symm e')]at hk;obtain⟨h1,cur,T,h2,h3⟩:=M.box k cs hk;have hl:g3.loc k=g.loc k:=by rw[yW];rfl
   exact⟨by rw[hl,oldG _ (M.own _ _ h1).1];exact h1,cur,T,by rw[hl,other _ _ h1 e'];exact h2,h3.ext E⟩
  ·have e':k≠id:=by rintro rfl;rw[getElem?_set_self hid]at hk;cases hk
   rw[getElem?_set_ne (Ne.symm e')]at hk;obtain⟨h1,y',h2,h3⟩:=M.fbox k cs hk j u hj;have hl:g3.loc k=g.loc k:=by rw[yW];rfl
   exact⟨by rw[hl];exact upA _ _ h1,y',by rw[hl,hA _ _ h1];exact h2,h3.keep E.A⟩
  ·have e':k≠id:=by rintro rfl;rw[getElem?_set_self hid]at hk;cases hk
   rw[getElem?_set_ne (Ne.symm e')]at hk;obtain⟨h1,h2⟩:=M.iter k y hk;have hl:g3.loc k=g.loc k:=by rw[yW];rfl
   exact⟨by rw[hl,oldG _ (M.own _ _ h1).1];exact h1,h2.at E.A E.loc (by simp) (by rw[hl,other _ _ h1 e'])⟩
  ·rw[length_set]
   rcases G3 b' k hk with ⟨h1,h2⟩|⟨h1,rfl⟩
   ·exact⟨lt_of_lt_of_le h1 j6,(M.own b' k h2).2⟩
   ·exact⟨vlt b' h1,hid⟩
  ·rcases newA b' o zJ with h1|⟨h1,h2⟩
   ·have h3:=M.imm b' o h1
    refine⟨lt_of_lt_of_le h3.1 j6,fun k hk hs=>?_⟩
    rw[oldG b' h3.1]at hk;rw[oldS b' h3.1]at hs;obtain⟨et,sz,e,xs2,h4,h5⟩:=h3.2 k hk hs;have e':k≠id:=by rintro rfl;rw[h]at h4;cases h4
    exact⟨et,sz,e,xs2,by rw[getElem?_set_ne (Ne.symm e')];exact h4,h5⟩
   ·refine⟨vlt b' h1,fun k hk hs=>?_⟩
    rw[yW]at hs;have hs:(if v'.ownBlock=some b' then true else g.sub b')=false:=hs;rw[if_pos h1]at hs;cases hs
  ·by_cases e':k=id
   ·subst e'
    rw[getElem?_set_self hid]at hk;cases hk;refine⟨by omega,fun x vt=>?_⟩
    rcases List.mem_or_eq_of_mem_set vt with h1|h1
    ·exact kS x h1
    ·rw[h1];rfl
   ·rw[getElem?_set_ne (Ne.symm e')]at hk;exact M.roww k _ _ _ _ _ hk
  ·rw[yW]at hs
   have hs:(if v'.ownBlock=some b' then true else g.sub b')=true:=hs;split at hs
   ·rename_i h1
    refine⟨id,_,_,_,_,_,?_,getElem?_set_self hid⟩;rw[yW];show(if v'.ownBlock=some b' then some id else g.G b')=_
    rw[if_pos h1]
   ·obtain⟨k,et,sz,fz,e,xs2,h1,h2⟩:=M.nsub b' hs
    have h3:g3.G b'=some k:=by rw[oldG b' (M.own b' k h1).1];exact h1
    by_cases e':k=id
    ·subst e'
     exact⟨k,_,_,_,_,_,h3,getElem?_set_self hid⟩
    ·exact⟨k,et,sz,fz,e,xs2,h3,by rw[getElem?_set_ne (Ne.symm e')];exact h2⟩
  ·have main:∀b' k,g3.G b'=some k->g3.sub b'=false->g.G b'=some k/\g.sub b'=false:=fun b' k h1 h2=>by
    rw[yW]at h1 h2;have h1:(if v'.ownBlock=some b' then some id else g.G b')=some k:=h1;have h2:(if v'.ownBlock=some b' then true else g.sub b')=false:=h2;split at h2
    ·cases h2
    ·rename_i e
     rw[if_neg e]at h1;exact⟨h1,h2⟩
   exact M.uniq b1 b2 k (main b1 k h1 hs).1 (main b2 k h2 jf).1 (main b1 k h1 hs).2 (main b2 k h2 jf).2
 ·have hr:=Q1n b [v'] (i * 2+1) w2
  refine⟨?_,?_,?_,j6,fun b' h1 h2=>?_,fun b' k hk=>?_,fun b' o zJ=>?_,E,by simp⟩
  ·rw[zL,hr.1,hg.os,zB.os]
  ·rw[zL,hr.2.1,hg.tape,zB.tape]
  ·rw[zL,hr.2.2,hg.output,zB.output]
  ·exact keep b' h1 (fun e=>by rw[e,qR]at h2;cases h2) (fun e=>by rw[(yF b' e).1]at h2;cases h2)
  ·rcases G3 b' k hk with ⟨_,h2⟩|⟨h1,rfl⟩
   ·exact .inl ⟨k,h2⟩
   ·rcases qy b' h1 with ⟨h2,_⟩|h2
    ·exact .inl ⟨_,(yF b' h2).1⟩
    ·exact .inr h2
  ·rcases newA b' o zJ with h1|⟨h1,_⟩
   ·exact .inl h1
   ·rcases qy b' h1 with ⟨h2,_⟩|h2
    ·exact .inr (.inl ⟨_,(yF b' h2).1⟩)
    ·exact .inr (.inr h2)
end
section
open Tryz
section
variable {P:Program}{ops:Array Oper}{R:Exit->Act->World->Prop}{a:Act}{w w':World}{i:Nat}{rest:List Nat}{o:Oper}{ty:Tys}
theorem Q28{v:Value}(ho:ops[i]?=some o)(hg:o.guard=none)(hr:(execOp a.eval o).run P w=.ok (.value v) w')(h:wpOps P ops R rest (a.put o.dst v) w'):wpOps P ops R (i::rest) a w:=by
 unfold wpOps;rw[ho];simp only[Region.wanted,hg,if_true];exact .inl (Q3k hr h)
theorem QeX(ho:ops[i]?=some o)(hg:o.guard=none)(hr:(execOp a.eval o).run P w=.ok .skip w')(h:wpOps P ops R rest (a.put o.dst undef) w'):wpOps P ops R (i::rest) a w:=by
 unfold wpOps;rw[ho];simp only[Region.wanted,hg,if_true];refine .inl ?_;unfold Oper.wp;rw[hr];exact h
theorem QkA(d:Nat)(v:Value):(a.put (some d) v).tmps.size=a.tmps.size:=by
 show(a.tmps.setIfInBounds d v).size=_
 simp
theorem Qiu{d:Nat}(h:d<a.tmps.size)(v:Value)(t:Nat):(a.put (some d) v).eval (.tmp t)=if t=d then v else a.eval (.tmp t):=by
 show(a.tmps.setIfInBounds d v).getD t undef=if t=d then v else a.tmps.getD t undef
 by_cases e:t=d
 ·subst e;simp[Array.getD_eq_getD_getElem?,h]
 ·rw[if_neg e]
  simp only[Array.getD_eq_getD_getElem?];rw[Array.getElem?_setIfInBounds_ne (Ne.symm e)]
structure At (N:Nat) (a:Act) (f:Nat->Value):Prop where
 defers:a.defers=[]
 size:a.tmps.size=N
 ev:∀t,a.eval (.tmp t)=f t
theorem At.put{N:Nat}{f:Nat->Value}(h:At N a f){d:Nat}(hd:d<N)(v:Value):At N (a.put (some d) v) fun t=>if t=d then v else f t :=
 ⟨h.defers,by rw[QkA];exact h.size,fun t=>by rw[Qiu (by rw[h.size];exact hd)];rw[h.ev]⟩
theorem Q9M{x:Operand}(ho:o.op=.move x\/o.op=.assign x):(execOp a.eval o).run P w=.ok (.value (a.eval x)) w:=by
 rcases ho with ho|ho<;>simp only[execOp,ho]<;>rfl
theorem Q6H{x:Operand}{ad:Addr}(ho:o.op=.nilCheck x)(hv:a.eval x=.pointer (some ad)):(execOp a.eval o).run P w=.ok (.value (.pointer (some ad))) w:=by
 simp only[execOp,ho,hv]<;>rfl
theorem Q6B(hT:TyOk P ty){T:Nat}{x:Operand}{f off t b u:Nat}(ho:o.op=.fieldAddr T x f)(hf:(Q1 T ty).flds[f]?=some (off,t))(vm:fOk ty t=true)
  (hv:a.eval x=.pointer (some ⟨b,u,none⟩)):(execOp a.eval o).run P w=.ok (.value (.pointer (some ⟨b,u+off,none⟩))) w:=by
 obtain⟨fs,fd,h1,h2,h3⟩:=(QeD hT hf).strct' hf;obtain⟨rfl,rfl⟩:off=fd.offset/\t=fd.type:=by simpa using h3
 simp only[fOk,Bool.and_eq_true,bne_iff_ne,ne_eq]at vm;have hs:=(Q1S hT vm.1).size w;simp only[execOp,ho];refine Q11 ?_;rw[hv];simp[Instr.fieldAt,run_underlying h1,h2,Instr.sureAddr,fieldPlace,hs,vm.2,Addr.add_mid]
theorem Qhq(hT:TyOk P ty){T:Nat}{x:Operand}{b u:Nat}{y:Value}(ho:o.op=.load T x)(jB:(Q1 T ty).ok=true)(nQ:(Q1 T ty).agg=false)
  (hv:a.eval x=.pointer (some ⟨b,u,none⟩)) (hc:w.cell? ⟨b,u,none⟩=some y):(execOp a.eval o).run P w=.ok (.value y) w:=by
 have:=(Q1S hT jB).isAgg w
 rw[nQ]at this;simp only[execOp,ho];refine Q11 ?_;rw[hv];simp[Instr.loadAt,Instr.sureAddr,loadVar,this,hc]
theorem QeO(hT:TyOk P ty){T:Nat}{x y:Operand}{b u:Nat}{v:Value}(ho:o.op=.store T x y)(jB:(Q1 T ty).ok=true)(j6:(Q1 T ty).size=1)
  (hv:a.eval x=.pointer (some ⟨b,u,none⟩)) (hy:a.eval y=v) (h1:v.oneCell'=true) {z:Value} (hc:w.cell? ⟨b,u,none⟩=some z) (hf:w.frozen? ⟨b,u,none⟩=false) :
  (execOp a.eval o).run P w=.ok .skip (w.setCells b u [v]):=by
 have jI:=run_storeCells_cells (P:=P) b u [v] 0 w (fun j hj=>by
  obtain rfl:j=0:=by simpa using hj
  show(w.cell? ⟨b,u,none⟩).isSome=true
  rw[hc];rfl) (fun j hj=>by
  obtain rfl:j=0:=by simpa using hj
  exact hf) (fun v' hv'=>by
  obtain rfl:v'=v:=by simpa using hv'
  exact h1)
 rw[add_zero]at jI;have kr:=(Q1S hT jB).size w;rw[j6]at kr;have qY:v.cells=#[v]:=QaV h1;simp only[execOp,ho,Instr.storeAt,hv,hy,Instr.sureAddr,storeVar,Sem.run_bind,Sem.run_pure,Result.andThen_ok,kr,qY];simp[jI]
theorem Qm9{x y:Operand}{T U:Nat}{v:Value}(ho:o.op=.call { callee:=.builtin .append,args:=#[x,y],argTypes:=#[T,U] })(hr:(Builtin.append_ #[T,U] o.type #[a.eval x,a.eval y]).run P w=.ok v w') :
  (execOp a.eval o).run P w=.ok (.value v) w':=by
 obtain⟨cs,hc⟩:=Q5l (P:=P) (a:=a) ho w;rw[hc];show(do pure (Next.value (<-Builtin.append_ #[T,U] o.type (Array.map a.eval #[x,y]))):Sem Next).run P w=_
 refine Q11 ?_;simpa using hr
end
section
variable {Df:List Deferred}{w0:World}{g0:Gh}{o0:List Ob}
theorem Qas{w:World}{b o:Nat}{v:Value}{cur:Array Value}{T:TypeId}{fr:Nat×Nat}(h:w.heap[b]?=some (.cells cur T fr))(hv:cur[o]?=some v):w.setCells b o [v]=w:=by
 have e:cur.setIfInBounds o v=cur:=by
  apply Array.ext';refine List.ext_getElem? fun j=>?_
  rw[Array.getElem?_toList,Array.getElem?_toList,Array.getElem?_setIfInBounds];split
  ·rename_i e;subst e
   split
   ·exact hv.symm
   ·rename_i hn;rw[Array.getElem?_eq_none (by omega)]
  ·rfl
 show({ w with heap:=_ }:World)=w
 have e2:(w.heap.modify b fun
   |.cells c elem frozen=>.cells (if(none:Option Nat).isSome then c else c.setIfInBounds o v) elem frozen
   |o=>o)=w.heap:=by
  apply Array.ext';refine List.ext_getElem? fun j=>?_
  rw[Array.getElem?_toList,Array.getElem?_toList,Array.getElem?_modify];split
  ·rename_i e3;subst e3
   rw[h];simp[e]
  ·rfl
 exact congrArg (fun x=>({ w with heap:=x }:World)) e2
theorem Qh8{ob:List Ob}{args:List AV}{g:Gh}{w:World}{vs:List Value}{N:Nat}(M:Mem w g ob)(hL:Q1D w g ob vs args)(hn:args.length<=N) :
  Sim [] w g ob N ⟨ent 0 args,ob⟩ { tmps:=vs.toArray++Array.replicate (N-vs.toArray.size) undef,defers:=[] } w:=by
 have jC:vs.length=args.length:=hL.1;refine⟨rfl,?_,g,M,fun t=>?_,Step.refl⟩
 ·simp;omega
 ·show ARel w g ob _ (lk t (ent 0 args))
  rw[Q9w];simp only[zero_le,if_true,Nat.sub_zero];by_cases ht:t<args.length
  ·rw[getD_eq_getElem?_getD,getElem?_eq_getElem ht,Option.getD_some]
   have e:(vs.toArray++Array.replicate (N-vs.toArray.size) undef).getD t undef=vs[t]'(by omega):=by
    rw[Array.getD_eq_getD_getElem?,Array.getElem?_append_left (by simp;omega)]
    simp[show t<vs.length by omega]
   rw[e];exact(hL.2 t _ _ (getElem?_eq_getElem (by omega)) (getElem?_eq_getElem ht)).to
  ·rw[getD_eq_getElem?_getD,List.getElem?_eq_none (by omega)]
   trivial
end
theorem QbT{P:Program}{fn:Func}(h:fn.results=#[])(tmps:Array Value)(w:World):(results fn tmps).run P w=.ok (.tuple #[]) w:=by
 simp[results,h]
noncomputable def kidR0:Code:=match f63.body with|some (.seq c _)=>c|_=>.skip
noncomputable def kidR1:Code:=match f63.body with|some (.seq _ c)=>c|_=>.skip
def QmM(ob:List Ob)(k:Nat)(i n:Int)(e:Ex)(s:St):Prop:=e=.normal/\s.ob=ob/\lk 4 s.tm=.rptr k 0 i 0/\lk 1 s.tm=.val (.int .i64 n)
theorem QlX{ob:List Ob}{k:Nat}{bs tp:AV}{xs:List AV}(hb:ob[0]?=some (.box [bs,tp,.row k 0]))(hk:ob[k]?=some (.row Q4e 2 false 0 xs)){i n:Int}
  (yR:∀w0 g0,(QU std tys cs0 (fun _=>.nil) kidR0 (fun e s=>.leaf e s) ⟨ent 0 [.box 0 0,.val (.int .i64 n)],ob⟩).ok [] prog w0 g0 ob 26 (QmM ob k i n))
  {a u:AV} {us:List AV} (hi:0<=i) (hx:xs[i.toNat]?=some (.agg [a,u])) (hu:u=.slc 1 us\/(u=.val (.slice none 0 0)/\us=[])) (hul:us.length<=1000000) :
  BCall prog 63 [.box 0 0,.val (.int .i64 n)] ob (.tup []) ((ob.set k (.row Q4e 2 false 1 (xs.set i.toNat (.agg [a,.slc 1 (us++[.val (.int .i64 n)])])))).set 0 (.box [bs,tp,.row k 1])):=by
 refine⟨enters_of func63 (by kernel_rfl) rfl,fun w0 g0 vs M0 hL=>calls_of_wp func63 (c:=.seq kidR0 kidR1) rfl ?_⟩
 refine wp_seq (Q2n (w0:=w0) (g0:=g0) (o0:=ob) (N:=26) (Q:=QmM ob k i n) (cs:=cs0) (ord:=fun _=>.nil) Q5W (by kernel_rfl) kidR0 (fun e s=>.leaf e s) _ ⟨ent 0 [.box 0 0,.val (.int .i64 n)],ob⟩ _ w0 (by kernel_rfl) (by kernel_rfl) (fun c a d v w h=>h) (fun e s ac w _ hs hq=>?_) (fun v s a w _ _ h=>nomatch h.1) (Qh8 M0 hL (Nat.le_of_ble_eq_true rfl)) (yR w0 g0))
 obtain⟨rfl,jK,h4,h1⟩:=(show QmM ob k i n e s from hq);show kidR1.wp _ _ ac w;refine wp_region ?_;show wpOps _ _ _ [0,1,2,3,4,5,6,7,8,9,10] ac w;obtain⟨hdf,j6,g,M,hS,h0⟩:=hs;rw[jK]at M h0;have jl:k≠0:=by rintro rfl;rw[hb]at hk;cases hk
 -- what the slots zc
 have hp:=hS 4;rw[h4,jK]at hp;obtain⟨_,et,sz,fz,ee,xs',vq,_,kJ⟩:=(show ARel0 w g ob _ (.rptr k 0 i 0) from hp);rw[hk]at vq;cases vq;obtain⟨b,c,hpv,_,yd,hRV⟩:=kJ rfl;have hn:=hS 1;rw[h1]at hn;have ns:=hn.valEq;-- the maker's box
 obtain⟨pY,cur,T0,hh0,ji⟩:=M.box 0 _ hb;have qY:cur.toList.length=3:=ji.1;obtain⟨v,hv⟩:∃v,cur.toList[2]?=some v:=⟨_,getElem?_eq_getElem (by omega)⟩
 obtain⟨⟨cy,et,sz,fz,ee,xs',vq,_,zz⟩,_⟩:=ji.2 2 v (.row k 0) hv rfl;rw[hk]at vq;cases vq;have hRB:=zz rfl;obtain⟨ysP,hoP,hGP,_,_,hsP,_⟩:=hRV;obtain⟨ysB,hoB,hGB,_,_,hsB,_⟩:=(show RowV w g k Q4e 2 v xs from hRB);rcases hoB.2 with ⟨_,h00⟩|⟨bB,cap,curB,rfl,_,hhB,_,_,_,_⟩
 ·omega
 obtain rfl:b=bB:=M.uniq _ _ k (hGP b rfl) (hGB bB rfl) (hsP b rfl) (hsB bB rfl);obtain⟨y,zs,hcell,jG,qh,jT,kW,yF⟩:=Qli M hk hRB hx hu;have qR:=hGB b rfl;have jV:=(M.own b k qR).1
 have gY:y.ownBlock≠some b:=fun e=>by
  have:=(yF b e).2.1
  rw[hsB b rfl]at this;cases this
 have h0ne:g.loc 0≠b:=fun e=>by
  rw[e,qR]at pY;exact jl (Option.some.inj pY)
 have h0ny:y.ownBlock≠some (g.loc 0):=fun e=>by
  have:=(yF _ e).1
  rw[pY]at this;exact jl (Option.some.inj this).symm
 -- one operation after the other
 have A0:At 26 ac (fun t=>ac.eval (.tmp t)):=⟨hdf,j6,fun _=>rfl⟩
 have e4:ac.eval (.tmp 4)=.pointer (some ⟨b,i.toNat * 2+0,none⟩):=hpv;have e1:ac.eval (.tmp 1)=.int .i64 n:=ns;generalize kw:Value.pointer (some ⟨b,i.toNat * 2+0,none⟩)=PV at e4;refine Q28 rfl rfl (Q9M (x:=.tmp 4) (.inl rfl)) ?_;rw[e4];show wpOps _ _ _ [1,2,3,4,5,6,7,8,9,10] (ac.put (some 16) PV) w;have A1:=A0.put (d:=16) (by decide) PV
 generalize ac.put (some 16) PV=a1 at A1 ⊢;refine Q28 rfl rfl (Q9M (x:=.tmp 4) (.inl rfl)) ?_;rw[show a1.eval (.tmp 4)=PV by rw[A1.ev];exact e4]
 show wpOps _ _ _ [2,3,4,5,6,7,8,9,10] (a1.put (some 17) PV) w;have A2:=A1.put (d:=17) (by decide) PV
 generalize a1.put (some 17) PV=a2 at A2 ⊢;refine Q28 rfl rfl (Q6H (x:=.tmp 17) (ad:=⟨b,i.toNat * 2+0,none⟩) rfl (by rw[A2.ev,kw];rfl)) ?_
 rw[kw];show wpOps _ _ _ [3,4,5,6,7,8,9,10] (a2.put (some 18) PV) w;have A3:=A2.put (d:=18) (by decide) PV
 generalize a2.put (some 18) PV=a3 at A3 ⊢;refine Q28 rfl rfl (Q6B Q5W (x:=.tmp 18) (off:=1) (t:=97) rfl (by kernel_rfl) (by kernel_rfl) (b:=b) (u:=i.toNat * 2+0) (by rw[A3.ev,kw];rfl)) ?_
 rw[add_zero];generalize hFV:Value.pointer (some ⟨b,i.toNat * 2+1,none⟩)=FV;show wpOps _ _ _ [4,5,6,7,8,9,10] (a3.put (some 19) FV) w;have A4:=A3.put (d:=19) (by decide) FV
 generalize a3.put (some 19) FV=a4 at A4 ⊢;refine Q28 rfl rfl (Qhq Q5W (x:=.tmp 19) rfl (by kernel_rfl) (by kernel_rfl) (b:=b) (u:=i.toNat * 2+1) (by rw[A4.ev,hFV];rfl) hcell) ?_
 show wpOps _ _ _ [5,6,7,8,9,10] (a4.put (some 20) y) w;have A5:=A4.put (d:=20) (by decide) y
 generalize a4.put (some 20) y=a5 at A5 ⊢;refine Q28 rfl rfl (Q9M (x:=.tmp 1) (.inl rfl)) ?_;rw[show a5.eval (.tmp 1)=.int .i64 n by rw[A5.ev];exact e1]
 generalize pZ:Value.int .i64 n=NV;show wpOps _ _ _ [6,7,8,9,10] (a5.put (some 21) NV) w;have A6:=A5.put (d:=21) (by decide) NV
 generalize a5.put (some 21) NV=a6 at A6 ⊢;-- the slice of one number
 obtain⟨e,kZ,qS,te,qO,_⟩:=Q3E Q5W (T:=97) (sz:=1) (by kernel_rfl)
 obtain⟨ie,z,yy,qg,z7,cU,gV,_⟩:=te.i;have hek:e=Qh0:=qS.trans (by kernel_rfl)
 rw[qO]at qg
 have gJ:z.cells.size=1:=by
  have:=congrArg List.length gV
  rw[Array.length_toList,te.zl,qO]at this;exact this
 have xi:NV.cells=#[NV]:=by rw[<-pZ];rfl
 obtain⟨c',hf,zH⟩:=Q8h (sz:=1) [NV] 0 ((Array.range (1 * 1)).map (z.cells[· % z.cells.size]!)) (fun v' hv'=>by
  obtain rfl:v'=NV:=by simpa using hv'
  rw[xi];rfl) (by simp)
 obtain rfl:c'=#[NV]:=by
  apply Array.ext';rw[zH];simp[xi]
 have hrB:(Instr.buildSlice 97 1 #[(0,NV)]).run prog w=.ok (.slice (some ⟨w.heap.size,0,none⟩) 1 1) (w.alloc (.cells #[NV] e)) :=
  run_buildSlice w 97 e 1 _ _ ie z kZ yy cU (by rw[qg];decide) (by rw[qg];decide) (by rw[qg];exact hf)
 refine Q28 (w':=w.alloc (.cells #[NV] e)) (v:=.slice (some ⟨w.heap.size,0,none⟩) 1 1) rfl rfl (by
  simp only[execOp];refine Q11 ?_
  have:(#[(0,Operand.tmp 21)].map fun(x:Nat×Operand)=>(x.1,a6.eval x.2))=#[(0,NV)]:=by
   simp[A6.ev]
  rw[<-this]at hrB;exact hrB) ?_
 have hhN:(w.alloc (.cells #[NV] e)).heap[w.heap.size]?=some (.cells #[NV] e (0,0)):=Q5D w _;have p4:Below w.heap.size w (w.alloc (.cells #[NV] e)):=(Below.refl _ w).alloc (le_refl _) _;have zc:∀b',b'<w.heap.size->(w.alloc (.cells #[NV] e)).heap[b']?=w.heap[b']?:=fun b' h=>Q3G h
 generalize hSV:Value.slice (some ⟨w.heap.size,0,none⟩) 1 1=SV;show wpOps _ _ _ [7,8,9,10] (a6.put (some 22) SV) _;generalize w.alloc (.cells #[NV] e)=w1 at hhN p4 zc ⊢;have A7:=A6.put (d:=22) (by decide) SV
 generalize a6.put (some 22) SV=a7 at A7 ⊢
 obtain⟨v',w2,hrA,kU,hg,yE,yO⟩:=Qap (P:=prog) (w:=w1) (t:=97) (u:=97) (ty:=97) kZ kZ (.inl ⟨_,rfl⟩) yy cU qg (by rw[z7];exact te.by_) gJ
  (Q2U (hek ▸ jG) fun b' ye=>zc b' (yF b' ye).2.2.2) (x:=SV) (m:=1) (news:=[NV]) rfl (fun W=>by rw[<-hSV];rfl)
  (fun W hW=>by
    rw[<-hSV];refine run_firstCells_some (P:=prog) W 1 1 _ _ _ [NV] rfl (fun j u hj=>?_)
    cases j with
    |zero =>
     obtain rfl:NV=u:=by simpa using hj
     show W.cell? ⟨w.heap.size,0+0,none⟩=_;simp[World.cell?,hW,hhN]
    |succ j=>simp at hj) (fun u hu=>by
    obtain rfl:u=NV:=by simpa using hu
    rw[<-pZ];rfl) (by omega)
 refine Q28 rfl rfl (Qm9 (x:=.tmp 20) (y:=.tmp 22) rfl (by
  rw[show a7.eval (.tmp 20)=y by rw[A7.ev];rfl,show a7.eval (.tmp 22)=SV by rw[A7.ev];rfl]
  exact hrA)) ?_
 show wpOps _ _ _ [8,9,10] (a7.put (some 23) v') w2;have A8:=A7.put (d:=23) (by decide) v'
 generalize a7.put (some 23) v'=a8 at A8 ⊢;refine Q28 rfl rfl (Q6H (x:=.tmp 16) (ad:=⟨b,i.toNat * 2+0,none⟩) rfl (by rw[A8.ev,kw];rfl)) ?_
 rw[kw];show wpOps _ _ _ [9,10] (a8.put (some 24) PV) w2;have A9:=A8.put (d:=24) (by decide) PV
 generalize a8.put (some 24) PV=a9 at A9 ⊢;refine Q28 rfl rfl (Q6B Q5W (x:=.tmp 24) (off:=1) (t:=97) rfl (by kernel_rfl) (by kernel_rfl) (b:=b) (u:=i.toNat * 2+0) (by rw[A9.ev,kw];rfl)) ?_
 rw[add_zero,hFV];show wpOps _ _ _ [10] (a9.put (some 25) FV) w2;have A10:=A9.put (d:=25) (by decide) FV
 generalize a9.put (some 25) FV=a10 at A10 ⊢
 have pV:w2.heap[b]?=w.heap[b]?:=by
  rw[hg.block b (lt_of_lt_of_le jV p4.size) (fun e=>gY e.symm),zc b jV]
 have hv'1:v'.oneCell'=true:=by
  rcases kU.2 with ⟨_,h00⟩|⟨b',cap',cur',rfl,_⟩
  ·omega
  ·rfl
 refine QeX (w':=w2.setCells b (i.toNat * 2+1) [v']) rfl rfl (QeO Q5W (x:=.tmp 25) (y:=.tmp 23) rfl (by kernel_rfl) (by kernel_rfl) (by rw[A10.ev,hFV];rfl) (by rw[A10.ev];rfl) hv'1 (z:=y)
  (by rw[World.cell?_of_block (w:=w) pV];exact hcell) (by simp[World.frozen?,pV,hhB])) ?_
 obtain⟨g3,M3,S3,R3⟩:=QlR M hk hRB hx hcell jG jT kW yF (n:=n) p4 (pZ ▸ hek ▸ kU) hg yE yO;generalize zL:w2.setCells b (i.toNat * 2+1) [v']=w3 at M3 S3 R3 ⊢
 have vk:(ob.set k (.row Q4e 2 false (0+1) (xs.set i.toNat (.agg [a,.slc 1 (us++[.val (.int .i64 n)])]))))[0]?=some (.box [bs,tp,.row k 0]):=by
  rw[getElem?_set_ne jl];exact hb
 have gv:g3.loc 0=g.loc 0:=S3.ext.loc 0 (Q4 hb)
 have pW:w3.heap[g.loc 0]?=some (.cells cur T0 (0,0)):=by
  have jE:=(M.own _ _ pY).1;rw[<-zL,QH (k:=0) h0ne,hg.block _ (lt_of_lt_of_le jE p4.size) (fun e=>h0ny e.symm),zc _ jE]
  exact hh0
 have M4:=M3.store vk (off:=2) (vs:=[Value.slice (some ⟨b,0,none⟩) xs.length cap]) (us:=[.row k 1]) ⟨rfl,fun j y' u' vA j0=>by
  cases j with
  |zero =>
   obtain rfl:Value.slice (some ⟨b,0,none⟩) xs.length cap=y':=by simpa using vA
   obtain rfl:AV.row k 1=u':=by simpa using j0
   exact⟨⟨rfl,Q4e,2,false,1,_,getElem?_set_self (Q4 hk),le_refl _,fun _=>by
    have xj:(xs.set i.toNat (.agg [a,.slc 1 (us++[.val (.int .i64 n)])])).length=xs.length:=by rw[length_set]
    exact R3⟩,rfl⟩
  |succ j=>simp at vA⟩ (le_refl _)
 have S4:=Step.store M3 vk 2 [Value.slice (some ⟨b,0,none⟩) xs.length cap] [bs,tp,.row k 1];rw[gv,Qas pW (by rw[<-Array.getElem?_toList];exact hv)]at M4 S4
 show bodyPost _ _ _ .normal _ _;subst pZ;exact⟨A10.defers,_,QbT rfl _ _,_,g3,rfl,M4,⟨#[],rfl,rfl,fun j y' u' h=>by simp at h⟩,(h0.trans S3).trans S4⟩
structure Node where
 kind:Int
 width:Int
 count:Int
 leaf:Bool
 b:List UInt8
 kids:List Int
 deriving Inhabited
def Node.av(x:Node):AV:=.agg [.val (.int .i64 x.kind),.val (.int .i64 x.width),.val (.int .i64 x.count),.val (.bool x.leaf),.slc 1 (Q5 x.b),.slc 1 (Qh x.kids)]
def Q9(l:List Node):List AV:=l.map Node.av
theorem Q1z(l:List Node):(Q9 l).length=l.length:=by simp[Q9]
def Qbq:Node:=⟨0,0,0,false,[],[]⟩
def Q1l(l:List Node)(n:Int):Node:=if 0<=n/\n<l.length then l[n.toNat]?.getD Qbq else Qbq
theorem QhS{l:List Node}{n:Int}(h0:0<=n)(h1:n<l.length):(Q9 l)[n.toNat]?.getD .dead=(Q1l l n).av:=by
 rw[Q1l,if_pos ⟨h0,h1⟩];exact QjU Node.av h0 h1 Qbq
theorem QoQ(l:List Node):BCall prog 151 [.ref [.slc 6 (Q9 l)]] [] (.val (.int .i64 l.length)) []:=by
 refine fnN (cs0) func151 rfl fun _ _=>?_
 with_reducible refine cv1 (Q9 l) ?_
 refine⟨by simp[std,Q3R,Q3z],.pure rfl (.inl ?_)⟩
 simp[std,Q3z,Q9]
def QoS(len:List AV->Int):Nat->List AV->List Ob->Option (AV×List Ob):=fun f args _=>match f,args with
 |151,[.ref [.slc 6 xs]]=>some (.val (.int .i64 (len xs)),[])
 |_,_=>none
def QoR(k w c:Int->Int)(lf:Int->Bool)(b s:Int->List AV):Nat->List AV->List Ob->Option (AV×List Ob):=fun f args _=>match f,args with
 |131,[.ref [.slc 6 _],.val (.int .i64 n)]=>some (.agg [.val (.int .i64 (k n)),.val (.int .i64 (w n)),.val (.int .i64 (c n)),.val (.bool (lf n)),.slc 1 (b n),.slc 1 (s n)],[])
 |130,[.slc 1 xs]=>some (.slc 1 xs,[])
 |45,[.slc 1 xs]=>some (.slc 1 xs,[])
 |100,[.slc 1 xs]=>some (.slc 1 xs,[])
 |_,_=>none
def Q47(l:List Node)(n:Int):Int:=(Q1l l n).width
def Q3e(l:List Node)(n:Int):Int:=(Q1l l n).count
theorem Qoi:BCall prog 62 [] [] (.box 0 0) [.box [.val (.slice none 0 0)]]:=by
 refine fnO true (cs0) (fun _=>.nil) func62 rfl fun _ _=>?_
 with_reducible refine cv0 ?_
 exact⟨[some 0],.box 0 0,_,rfl,rfl,zero_le _,rfl,⟨rfl,rfl,trivial⟩,.inl rfl⟩
theorem Qmk(xs:List AV)(hn:xs.length<1000000000)(k w c:Int)(lf:Bool)(b kids:List AV) :
  BCall prog 99 [.box 0 0,.agg [.val (.int .i64 k),.val (.int .i64 w),.val (.int .i64 c),.val (.bool lf),.slc 1 b,.slc 1 kids]] [.box [.row 1 0],.row 197 6 false 0 xs] (.val (.int .i64 xs.length)) [.box [.row 1 1],.row 197 6 false 1 (xs++[.agg [.val (.int .i64 k),.val (.int .i64 w),.val (.int .i64 c),.val (.bool lf),.slc 1 b,.slc 1 kids]])]:=by
 refine fnN (cs0) func99 rfl fun _ _=>?_
 with_reducible refine cv0 ?_
 refine⟨?_,?_,[some 0,some 1],.val (.int .i64 xs.length),_,rfl,rfl,le_refl _,rfl,?_,.inl rfl⟩
 ·simp[std];omega
 ·show(-9223372036854775808:Int)<=_/\_<=(9223372036854775807:Int)
  simp[std];omega
 ·simp[Qf,std]
theorem Qn0(k w c:Int)(lf:Bool)(b kids:List AV) :
  BCall prog 99 [.box 0 0,.agg [.val (.int .i64 k),.val (.int .i64 w),.val (.int .i64 c),.val (.bool lf),.slc 1 b,.slc 1 kids]] [.box [.val (.slice none 0 0)]] (.val (.int .i64 0)) [.box [.row 1 1],.row 197 6 false 1 [.agg [.val (.int .i64 k),.val (.int .i64 w),.val (.int .i64 c),.val (.bool lf),.slc 1 b,.slc 1 kids]]]:=by
 refine fnN (cs0) func99 rfl fun _ _=>?_
 with_reducible refine cv0 ?_
 refine⟨?_,?_,[some 0,some 3],.val (.int .i64 0),_,rfl,rfl,Nat.le_succ _,rfl,?_,.inl rfl⟩
 ·simp[std]
 ·show(-9223372036854775808:Int)<=_/\_<=(9223372036854775807:Int)
  simp[std]
 ·simp[Qf,std]
def QA(kind:Int)(b:List UInt8):Node:=⟨kind,b.length,1,true,b,[]⟩
def Qgc(p:Pr):Nat->List AV->List Ob->Option (AV×List Ob):=fun f args ob=>match f,args with
 |99,[.box 0 0,.agg [k,w,c,l,b,s]]=>match ob with
  | [.box [.row 1 0],.row 197 6 false 0 xs]=>some (.val (.int .i64 (p.len xs)),[.box [.row 1 1],.row 197 6 false 1 (p.app xs [.agg [k,w,c,l,match b with|.val (.slice none 0 0)=>.slc 1 []|b=>b,match s with|.val (.slice none 0 0)=>.slc 1 []|s=>s]])])
  | [.box [.val (.slice none 0 0)]]=>some (.val (.int .i64 0),[.box [.row 1 1],.row 197 6 false 1 [.agg [k,w,c,l,match b with|.val (.slice none 0 0)=>.slc 1 []|b=>b,match s with|.val (.slice none 0 0)=>.slc 1 []|s=>s]]])
  |_=>none
 |130,[.slc 1 xs]=>some (.slc 1 xs,[])
 |100,[.slc 1 xs]=>some (.slc 1 xs,[])
 |100,[.val (.slice none 0 0)]=>some (.slc 1 [],[])
 |_,_=>none
theorem QiP(l:List Node)(hl:l.length<1000000000)(kind:Int)(b:List UInt8)(hb:b.length<=1000000000) :
  BCall prog 64 [.box 0 0,.val (.int .i64 kind),.slc 1 (Q5 b)] [.box [.row 1 0],.row 197 6 false 0 (Q9 l)] (.val (.int .i64 l.length)) [.box [.row 1 1],.row 197 6 false 1 (Q9 (l++[QA kind b]))]:=by
 refine fnN (Qgc std) func64 rfl fun _ _=>?_
 with_reducible refine cv2 (Q5 b) (Q9 l) ?_
 refine⟨Q5a _ (by simpa[Q5]using hb),?_,[some 0,some 1],.val (.int .i64 l.length),_,rfl,rfl,le_refl _,rfl,?_,.inl rfl⟩
 ·exact(Qmk (Q9 l) (by simpa[Q9]using hl) kind _ 1 true (Q5 b) []).le ⟨.inl rfl,⟨.inl rfl,.inl rfl,.inl rfl,.inl rfl,.inl rfl,.inr (.inl ⟨rfl,_,rfl⟩),trivial⟩,trivial⟩
 ·simp[Qf,std,Q9,QA,Node.av,Q5,Qh]
theorem Qlz(kind:Int)(b:List UInt8)(hb:b.length<=1000000000) :
  BCall prog 64 [.box 0 0,.val (.int .i64 kind),.slc 1 (Q5 b)] [.box [.val (.slice none 0 0)]] (.val (.int .i64 0)) [.box [.row 1 1],.row 197 6 false 1 (Q9 [QA kind b])]:=by
 refine fnN (Qgc std) func64 rfl fun _ _=>?_
 with_reducible refine cv1 (Q5 b) ?_
 refine⟨Q5a _ (by simpa[Q5]using hb),?_,[some 0,some 1],.val (.int .i64 0),_,rfl,rfl,Nat.le_succ _,rfl,?_,.inl rfl⟩
 ·exact(Qn0 kind _ 1 true (Q5 b) []).le ⟨.inl rfl,⟨.inl rfl,.inl rfl,.inl rfl,.inl rfl,.inl rfl,.inr (.inl ⟨rfl,_,rfl⟩),trivial⟩,trivial⟩
 ·simp[Qf,std,Q9,QA,Node.av,Q5,Qh]
def Q39(l:List Node)(ks:List Int):Int:=(ks.map (Q47 l)).sum
def cnt(l:List Node)(ks:List Int):Int:=ks.foldl (fun c k=>min (c+Q3e l k) 2147483647) 1
def Q1U(l:List Node)(kind:Int)(ks:List Int):Node:=⟨kind,Q39 l ks,cnt l ks,false,[],ks⟩
theorem Q7G{l:List Node}(hw:∀n,0<=Q47 l n)(ks:List Int):0<=Q39 l ks:=by
 induction ks with
 |nil=>simp[Q39]
 |cons k r ih=>have:=hw k;simp only[Q39,map_cons,List.sum_cons]at ih ⊢;omega
theorem QkU{l:List Node}(hw:∀n,0<=Q47 l n)(ks:List Int)(n:Nat):Q39 l (ks.take n)<=Q39 l ks:=by
 have h:=Q7G hw (ks.drop n)
 have e:Q39 l ks=Q39 l (ks.take n)+Q39 l (ks.drop n):=by
  rw[Q39,Q39,Q39,<-List.sum_append,<-List.map_append,List.take_append_drop]
 omega
theorem Q8p{l:List Node}(hc:∀n,0<=Q3e l n/\Q3e l n<=2147483647)(ks:List Int):0<=cnt l ks/\cnt l ks<=2147483647:=by
 have key:∀(ks:List Int)(c:Int),0<=c/\c<=2147483647->0<=ks.foldl (fun c k=>min (c+Q3e l k) 2147483647) c/\ks.foldl (fun c k=>min (c+Q3e l k) 2147483647) c<=2147483647:=by
  intro ks;induction ks with
  |nil=>intro c h;exact h
  |cons k r ih=>intro c h;have:=hc k;exact ih (min (c+Q3e l k) 2147483647) (by omega)
 exact key ks 1 (by omega)
theorem Qdt(l:List Node)(hl:l.length<1000000000)(kind:Int)(ks:List Int)(c9:ks.length<=1000000000)(je:∀k∈ks,0<=k/\k<l.length)(hw:∀n,0<=Q47 l n)(hc:∀n,0<=Q3e l n/\Q3e l n<=2147483647)(vR:Q39 l ks<=2147483647) :
  BCall prog 104 [.box 0 0,.val (.int .i64 kind),.slc 1 (Qh ks)] [.box [.row 1 0],.row 197 6 false 0 (Q9 l)] (.tup [.val (.int .i64 l.length),.val (.int .i64 0)]) [.box [.row 1 1],.row 197 6 false 1 (Q9 (l++[Q1U l kind ks]))]:=by
 refine fnN (Qgc std) func104 rfl fun _ _=>?_
 with_reducible refine cv2 (Qh ks) (Q9 l) ?_
 refine⟨QcL _ (by simpa[Qh]using c9),?_⟩
 obtain⟨n,hn⟩:=QC ks;refine Q1p (Qgc std) (Int) (fun i=>⟨[(0,.box 0 0),(8,.box 2 0),(9,.val (.bool false)),(18,.slc 1 (Qh ks)),(19,.val (.int .i64 n)),(20,.val (.int .i64 i))],[.box [.row 1 0],.row 197 6 false 0 (Q9 l),.box [.val (.int .i64 kind),.val (.int .i64 (Q39 l (ks.take i.toNat))),.val (.int .i64 (cnt l (ks.take i.toNat))),.val (.bool false),.val (.slice none 0 0),.slc 1 (Qh ks)]]⟩) (fun i=>0<=i/\i<=n) (fun i=>(n-i).toNat) 0 ?_ ?_ ?_
 ·have:=hn.eq
  omega
 ·exact⟨[some 0,some 1,some 2],_,rfl,by simp[Qf,lk,Q39,cnt,std,Qh,hn.eq]⟩
 ·rintro i ⟨gH,pP⟩
  have en:=hn.eq;have k5:=Q5C ks;have p5:=Q1z l;rcases Int.lt_or_eq_of_le pP with jE|jj
  ·have jW:=Q4w (l:=ks) gH (en ▸ jE)
   have hmem:ks[i.toNat]?.getD 0∈ks:=by
    have:i.toNat<ks.length:=by omega
    simp[this]
   have ht:ks.take (i+1).toNat=ks.take i.toNat++[ks[i.toNat]?.getD 0]:=by
    have:i.toNat<ks.length:=by omega
    rw[show(i+1).toNat=i.toNat+1 by omega,List.take_add_one]
    simp[this]
   have yL:Q39 l (ks.take (i+1).toNat)=Q39 l (ks.take i.toNat)+Q47 l (ks[i.toNat]?.getD 0):=by rw[ht];simp[Q39]
   have p6:cnt l (ks.take (i+1).toNat)=min (cnt l (ks.take i.toNat)+Q3e l (ks[i.toNat]?.getD 0)) 2147483647:=by rw[ht];simp[cnt,List.foldl_append]
   obtain⟨jl,jR⟩:=je _ hmem;obtain⟨k,hk⟩:=exq (ks[i.toNat]?.getD 0);rw[<-hk]at jW yL p6 jl jR;have hnd:=QhS jl jR
   have hWl:Q39 l (ks.take i.toNat)+Q47 l k<=2147483647:=by
    rw[<-yL];exact Int.le_trans (QkU hw _ _) vR
   have hW0:0<=Q39 l (ks.take i.toNat):=Q7G hw _;have hC0:=Q8p hc (ks.take i.toNat);have hwk:=hw k;have hck:=hc k;simp only[Q47,Q3e]at yL p6 hWl hwk hck;obtain⟨W,hW⟩:=exq (Q39 l (ks.take i.toNat));obtain⟨C,hC⟩:=exq (cnt l (ks.take i.toNat));rw[<-hW]at yL hWl hW0 ⊢;rw[<-hC]at p6 hC0 ⊢;clear en;with_reducible refine cv2 (Qh ks) (Q9 l) ?_
   have en:=hn.eq;replace jR:k<(l.length:Int):=jR
   repeat' first
    |(with_reducible refine And.intro (fun hx=>absurd hx (by first|(try simp[std,S1,jW,k5,p5,hnd,jl,jR,Node.av,jE])<;>omega|omega)) (fun _=>?_))
    |(with_reducible refine And.intro (fun _=>?_) (fun hx=>absurd hx (by first|(try simp[std,S1,jW,k5,p5,hnd,jl,jR,Node.av,jE])<;>omega|omega)))
    |(with_reducible refine And.intro (by first|(try simp[std,S1,jW,k5,p5,hnd,jl,jR,Node.av,jE])<;>omega|omega) ?_)
    |(with_reducible refine And.intro ?_ ?_)
    |(with_reducible intro hb)
   all_goals exact⟨i+1,⟨by omega,by omega⟩,by omega,[some 0,some 1,some 2],_,rfl,by simp[Qf,lk,std,jW,hnd,Node.av,AV.cells,intOf,yL,p6];omega⟩
  ·have ht:ks.take i.toNat=ks:=List.take_of_length_le (by omega)
   rw[ht];have hW0:=Q7G hw ks;have hC0:=Q8p hc ks;have hB:Q1U l kind ks=⟨kind,Q39 l ks,cnt l ks,false,[],ks⟩:=rfl;obtain⟨W,hW⟩:=exq (Q39 l ks);obtain⟨C,hC⟩:=exq (cnt l ks);rw[<-hW]at hW0 hB ⊢;rw[<-hC]at hC0 hB ⊢;clear en;with_reducible refine cv2 (Qh ks) (Q9 l) ?_
   with_reducible repeat' first|refine aU jj ?_|refine zA ?_ ?_|intro hb
   rw[if_pos trivial];generalize hBv:Q1U l kind ks=B at hB ⊢;with_reducible refine cv2 (Qh ks) (Q9 l) ?_
   refine⟨?_,[some 0,some 1],.tup [.val (.int .i64 l.length),.val (.int .i64 0)],_,rfl,rfl,le_refl _,rfl,?_,?_⟩
   ·exact(Qmk (Q9 l) (by simpa[Q9]using hl) kind W C false [] (Qh ks)).le ⟨.inl rfl,⟨.inl rfl,.inl rfl,.inl rfl,.inl rfl,.inr (.inl ⟨rfl,_,rfl⟩),.inl rfl,trivial⟩,trivial⟩
   ·simp[Qf,std,p5,Q9,hB,Node.av,Q5,Qh]
   ·exact⟨.inl rfl,.inl rfl,trivial⟩
end
def Wf(l:List Node):Prop:=∀n:Int,0<=n->n<l.length->∀k∈(Q1l l n).kids,0<=k/\k<n
def prF(l:List Node):Nat->Int->List UInt8
 |0,_=>[]
 |f+1,n=>(Q1l l n).b++(Q1l l n).kids.flatMap (prF l f)
def pr(l:List Node)(n:Int):List UInt8:=prF l (n.toNat+1) n
def coF(l:List Node):Nat->Int->Nat
 |0,_=>1
 |f+1,n=>1+((Q1l l n).kids.map (coF l f)).sum
def co(l:List Node)(n:Int):Nat:=coF l (n.toNat+1) n
theorem Qdw{l:List Node}(hw:Wf l):∀(f f':Nat)(n:Int),0<=n->n<l.length->n.toNat<f->n.toNat<f'->prF l f n=prF l f' n
 |0,_,_,_,_,h,_=>by omega
 |_+1,0,_,_,_,_,h=>by omega
 |f+1,f'+1,n,h0,h1,h2,h3=>by
  simp only[prF];congr 1
  refine congrArg List.flatten (map_congr_left fun k hk=>?_)
  have:=hw n h0 h1 k hk
  exact Qdw hw f f' k this.1 (by omega) (by omega) (by omega)
theorem QnM{l:List Node}(hw:Wf l){n:Int}(h0:0<=n)(h1:n<l.length):pr l n=(Q1l l n).b++(Q1l l n).kids.flatMap (pr l):=by
 show prF l (n.toNat+1) n=_;simp only[prF];congr 1
 refine congrArg List.flatten (map_congr_left fun k hk=>?_)
 have:=hw n h0 h1 k hk
 exact Qdw hw _ _ k this.1 (by omega) (by omega) (by omega)
theorem QdS{l:List Node}(hw:Wf l):∀(f f':Nat)(n:Int),0<=n->n<l.length->n.toNat<f->n.toNat<f'->coF l f n=coF l f' n
 |0,_,_,_,_,h,_=>by omega
 |_+1,0,_,_,_,_,h=>by omega
 |f+1,f'+1,n,h0,h1,h2,h3=>by
  simp only[coF];congr 2
  refine map_congr_left fun k hk=>?_
  have:=hw n h0 h1 k hk
  exact QdS hw f f' k this.1 (by omega) (by omega) (by omega)
theorem Qor{l:List Node}(hw:Wf l){n:Int}(h0:0<=n)(h1:n<l.length):co l n=1+((Q1l l n).kids.map (co l)).sum:=by
 show coF l (n.toNat+1) n=_;simp only[coF];congr 2
 refine map_congr_left fun k hk=>?_
 have:=hw n h0 h1 k hk
 exact QdS hw _ _ k this.1 (by omega) (by omega) (by omega)
def QkG(l:List Node):Prop:=∀n:Int,0<=n->n<l.length->(Q1l l n).width=(pr l n).length
section
open Tryz
def Q3h(s t:ByteArray):Bool:=decide (t.size<=s.size)&&(s.data.toList.take t.size == t.data.toList)
theorem Qlm{s t:ByteArray}(h:t.size<=s.size):std.eqS (std.cutS s 0 (std.szS t)) t=Q3h s t:=by
 simp only[std,Q3h,h,decide_true,Bool.true_and,ByteArray.toList_eq];rw[show(0:Int).toNat=0 from rfl,Int.toNat_natCast,extract_from_zero]
theorem Qol(s t:ByteArray):BCall prog 192 [.val (.string s),.val (.string t)] [] (.val (.bool (Q3h s t))) []:=by
 refine fnN (cs0) func192 rfl fun _ _=>?_
 with_reducible refine cv0 ?_
 refine⟨fun h=>⟨?_,.pure rfl (.inl ?_)⟩,fun h=>.pure rfl (.inl ?_)⟩
 ·have h:t.size<=s.size:=by simpa[std]using h
  simp[std];omega
 ·have h:t.size<=s.size:=by simpa[std]using h
  show AV.val (.bool (std.eqS (std.cutS s 0 (std.szS t)) t))=_;rw[Qlm h]
 ·have h:¬t.size<=s.size:=by simpa[std]using h
  simp[Q3h,h]
def QjP(pre:ByteArray->ByteArray->Bool):Nat->List AV->List Ob->Option (AV×List Ob):=fun f args _=>match f,args with
 |192,[.val (.string s),.val (.string t)]=>some (.val (.bool (pre s t)),[])
 |142,[.val (.string s),.val (.string t)]=>some (.val (.bool (pre s t)),[])
 |_,_=>none
theorem Qin(s t:ByteArray):BCall prog 142 [.val (.string s),.val (.string t)] [] (.val (.bool (Q3h s t))) []:=by
 refine fnN (QjP Q3h) func142 rfl fun _ _=>?_
 with_reducible refine cv1 Q3h ?_
 exact⟨Qol s t,.pure rfl (.inl rfl)⟩
def signsL:List (List UInt8×Int×Int):=[([254,255],1,2),([255,254],2,2),([239,187,191],0,3),([0,60,0,63],1,0),([60,0,63,0],2,0)]
def kR(pre:List UInt8->Bool)(k:Nat):Int×Int:=match(signsL.drop k).find? (fun x=>pre x.1)with
 |some x=>x.2
 |none=>(0,0)
def Q18(b:List UInt8):Int×Int:=kR (fun t=>t.isPrefixOf b) 0
theorem Q2Q(l:List UInt8):(Q5 l).map Q2K=l:=by
 induction l with
 |nil=>rfl
 |cons x r ih=>rw[Q5,map_cons,map_cons];rw[Q5]at ih;rw[ih];simp[Q4Q,Q2K]
theorem Qan(l:List UInt8):std.isB (Q5 l):=fun x hx=>by
 obtain⟨n,_,rfl⟩:=List.mem_map.1 hx;exact⟨n,rfl⟩
theorem Qk8(b t:List UInt8)(h:t.length<=4):Q3h ⟨(b.take 4).toArray⟩ ⟨t.toArray⟩=t.isPrefixOf b:=by
 have e:Q3h ⟨(b.take 4).toArray⟩ ⟨t.toArray⟩=(decide (t.length<=(b.take 4).length)&&((b.take 4).take t.length == t)):=rfl;rw[e,Bool.eq_iff_iff,List.isPrefixOf_iff_prefix,List.prefix_iff_eq_take];simp only[List.take_take,length_take,Bool.and_eq_true,decide_eq_true_eq,beq_iff_eq,Nat.min_eq_left h];constructor
 ·exact fun h=>h.2.symm
 ·intro h1
  have:t.length<=b.length:=by
   have:=congrArg List.length h1
   rw[length_take]at this;omega
  exact⟨by omega,h1.symm⟩
theorem QkW(b:List UInt8):BCall prog 97 [.slc 1 (Q5 b)] [] (.tup [.val (.int .i64 (Q18 b).1),.val (.int .i64 (Q18 b).2)]) []:=by
 refine fnN (QjP Q3h) func97 rfl fun _ _=>?_
 with_reducible refine cv2 Q3h (Q5 b) ?_
 have jV:=Q2W b;have zb:std.minI (std.len (Q5 b)) 4=if 4<(b.length:Int)then 4 else(b.length:Int):=by simp only[std,jV]
 have jH:std.cut (Q5 b) 0 (std.minI (std.len (Q5 b)) 4)=Q5 (b.take 4):=by
  rw[zb];show((Q5 b).drop (0:Int).toNat).take _=_
  rw[show(0:Int).toNat=0 from rfl,drop_zero,Q5,Q5,List.map_take];split
  ·rfl
  ·have:b.length<=4:=by omega
   rw[List.take_of_length_le (by simp),List.take_of_length_le (by simpa using this)]
 refine⟨?_,?_,?_⟩
 ·simp only[std,jV]
  split<;>omega
 ·show std.isB (std.cut (Q5 b) 0 (std.minI (std.len (Q5 b)) 4))
  rw[jH];exact Qan _
 have xl:std.strB (std.cut (Q5 b) 0 (std.minI (std.len (Q5 b)) 4))=⟨(b.take 4).toArray⟩:=by
  rw[jH];show(⟨((Q5 (b.take 4)).map Q2K).toArray⟩:ByteArray)=_
  rw[Q2Q]
 obtain⟨s,hs⟩:=exq (⟨(b.take 4).toArray⟩:ByteArray);have zC:∀t:List UInt8,t.length<=4->t.isPrefixOf b=Q3h s ⟨t.toArray⟩:=fun t h=>by rw[hs,Qk8 b t h]
 have hR:Q18 b=kR (fun t=>Q3h s ⟨t.toArray⟩) 0:=by
  simp[Q18,kR,signsL,List.find?,zC [254,255] (by decide),zC [255,254] (by decide),zC [239,187,191] (by decide),zC [0,60,0,63] (by decide),zC [60,0,63,0] (by decide)]
 rw[hR];obtain⟨R,hRE⟩:=exq (kR (fun t=>Q3h s ⟨t.toArray⟩) 0)
 rw[<-hRE];obtain⟨R1,R2⟩:=R;refine Q1p (QjP Q3h) (Int) (fun k=>⟨[(5,.val (.string s)),(20,.agg [.val (.string ⟨#[254,255]⟩),.val (.int .i64 1),.val (.int .i64 2),.val (.string ⟨#[255,254]⟩),.val (.int .i64 2),.val (.int .i64 2),.val (.string ⟨#[239,187,191]⟩),.val (.int .i64 0),.val (.int .i64 3),.val (.string ⟨#[0,60,0,63]⟩),.val (.int .i64 1),.val (.int .i64 0),.val (.string ⟨#[60,0,63,0]⟩),.val (.int .i64 2),.val (.int .i64 0)]),(21,.val (.int .i64 k))],[]⟩) (fun k=>0<=k/\k<=5/\(R1,R2)=kR (fun t=>Q3h s ⟨t.toArray⟩) k.toNat) (fun k=>(5-k).toNat) 0 ?_ ?_ ?_
 ·exact⟨by omega,by omega,hRE⟩
 ·refine⟨[],_,rfl,?_,?_⟩
  ·show AV.val (.string (std.strB (std.cut (Q5 b) 0 (std.minI (std.len (Q5 b)) 4))))=.val (.string s)
   rw[xl,<-hs]
  ·repeat first|exact trivial|refine⟨rfl,?_⟩
 ·rintro k ⟨jl,hk5,hk⟩
  have hcs:k=0\/k=1\/k=2\/k=3\/k=4\/k=5:=by omega
  clear hR zC hRE xl jH jV hs zb;rcases hcs with rfl|rfl|rfl|rfl|rfl|rfl
  ·with_reducible refine cv1 Q3h ?_
   with_reducible repeat' first|refine aU hk ?_|refine And.intro ?_ ?_|intro hb
   ·exact Qin _ _
   ·with_reducible refine cv1 Q3h ?_
    simp[kR,signsL,List.find?,hb]at hk;exact .pure rfl ⟨.inl (by rw[hk.1]),.inl (by rw[hk.2]),trivial⟩
   ·refine⟨1,⟨by omega,by omega,?_⟩,by omega,[],_,rfl,?_⟩
    ·rw[hk]
     simp only[kR,signsL,Int.reduceToNat,drop_succ_cons,drop_zero,find?_cons,hb]
    ·simp[Qf,lk,std]
  ·with_reducible refine cv1 Q3h ?_
   with_reducible repeat' first|refine aU hk ?_|refine And.intro ?_ ?_|intro hb
   ·exact Qin _ _
   ·with_reducible refine cv1 Q3h ?_
    simp[kR,signsL,List.find?,hb]at hk;exact .pure rfl ⟨.inl (by rw[hk.1]),.inl (by rw[hk.2]),trivial⟩
   ·refine⟨2,⟨by omega,by omega,?_⟩,by omega,[],_,rfl,?_⟩
    ·rw[hk]
     simp only[kR,signsL,Int.reduceToNat,drop_succ_cons,drop_zero,find?_cons,hb]
    ·simp[Qf,lk,std]
  ·with_reducible refine cv1 Q3h ?_
   with_reducible repeat' first|refine aU hk ?_|refine And.intro ?_ ?_|intro hb
   ·exact Qin _ _
   ·with_reducible refine cv1 Q3h ?_
    simp[kR,signsL,List.find?,hb]at hk;exact .pure rfl ⟨.inl (by rw[hk.1]),.inl (by rw[hk.2]),trivial⟩
   ·refine⟨3,⟨by omega,by omega,?_⟩,by omega,[],_,rfl,?_⟩
    ·rw[hk]
     simp only[kR,signsL,Int.reduceToNat,drop_succ_cons,drop_zero,find?_cons,hb]
    ·simp[Qf,lk,std]
  ·with_reducible refine cv1 Q3h ?_
   with_reducible repeat' first|refine aU hk ?_|refine And.intro ?_ ?_|intro hb
   ·exact Qin _ _
   ·with_reducible refine cv1 Q3h ?_
    simp[kR,signsL,List.find?,hb]at hk;exact .pure rfl ⟨.inl (by rw[hk.1]),.inl (by rw[hk.2]),trivial⟩
   ·refine⟨4,⟨by omega,by omega,?_⟩,by omega,[],_,rfl,?_⟩
    ·rw[hk]
     simp only[kR,signsL,Int.reduceToNat,drop_succ_cons,drop_zero,find?_cons,hb]
    ·simp[Qf,lk,std]
  ·with_reducible refine cv1 Q3h ?_
   with_reducible repeat' first|refine aU hk ?_|refine And.intro ?_ ?_|intro hb
   ·exact Qin _ _
   ·with_reducible refine cv1 Q3h ?_
    simp[kR,signsL,List.find?,hb]at hk;exact .pure rfl ⟨.inl (by rw[hk.1]),.inl (by rw[hk.2]),trivial⟩
   ·refine⟨5,⟨by omega,by omega,?_⟩,by omega,[],_,rfl,?_⟩
    ·rw[hk]
     simp only[kR,signsL,Int.reduceToNat,drop_succ_cons,drop_zero,find?_cons,hb]
    ·simp[Qf,lk,std]
  ·with_reducible refine cv1 Q3h ?_
   with_reducible repeat' first|refine aU hk ?_|refine And.intro ?_ ?_|intro hb
   rw[if_pos trivial];with_reducible refine cv1 Q3h ?_
   simp[kR,signsL]at hk;exact .pure rfl ⟨.inl (by rw[hk.1]),.inl (by rw[hk.2]),trivial⟩
def Q1L(l:List Tok):List AV:=l.map Tok.av
theorem Qdl(l:List Tok):(Q1L l).length=l.length:=by simp[Q1L]
theorem Qj1(a b:List Tok):Q1L (a++b)=Q1L a++Q1L b:=by simp[Q1L]
theorem Qk3(t:Tok):Q1L [t]=[.agg [.val (.int .i64 t.kind),.val (.int .i64 t.from_),.val (.int .i64 t.to),.val (.bool t.whole)]]:=rfl
def QoG(t:(Nat×Nat×Bool)×Nat):Tok:=⟨t.1.1,t.2,t.1.2.1,t.1.2.2⟩
def Q3J(l:List Int)(k:Nat):List Tok:=(Q42 l k).map QoG
def Qb1(l:List Int):List Tok:=Q3J l 0
theorem Q4x{l:List Int}{k:Nat}(h:k<l.length):Q3J l k=Q1M l k::Q3J l (QZ l k).2.1:=by
 rw[Q3J,Qau l k h];rfl
theorem Q5d{l:List Int}{k:Nat}(h:¬k<l.length):Q3J l k=[]:=by rw[Q3J,QbM l k h];rfl
def Q3H(l:List Int)(k:Int):Tok:=if 0<=k/\k<l.length then Q1M l k.toNat else⟨0,0,0,false⟩
def Q82(l:List Int)(k:Int):Bool:=decide (0<=k/\k<l.length)
theorem QiH(l:List Int)(hl:l.length<=1000000000)(k:Int)(h0:0<=k):BCall prog 92 [.slc 1 (Q0 l),.val (.int .i64 k)] [] (.tup [.agg [.val (.int .i64 (Q3H l k).kind),.val (.int .i64 (Q3H l k).from_),.val (.int .i64 (Q3H l k).to),.val (.bool (Q3H l k).whole)],.val (.bool (Q82 l k))]) []:=by
 by_cases h:k<l.length
 ·rw[Q3H,if_pos ⟨h0,h⟩,Q82,decide_eq_true ⟨h0,h⟩]
  exact Qnr l hl k h0 h
 ·have:¬(0<=k/\k<l.length):=fun x=>h x.2
  rw[Q3H,if_neg this,Q82,decide_eq_false this];exact QhA l k h0 (by omega)
def csN(kd fr to:Int->Int)(wh ok:Int->Bool):Nat->List AV->List Ob->Option (AV×List Ob):=fun f args _=>match f,args with
 |92,[.slc 1 _,.val (.int .i64 k)]=>some (.tup [.agg [.val (.int .i64 (kd k)),.val (.int .i64 (fr k)),.val (.int .i64 (to k)),.val (.bool (wh k))],.val (.bool (ok k))],[])
 |_,_=>none
theorem Qii(l:List Int)(hl:l.length<=1000000):BCall prog 101 [.slc 1 (Q0 l)] [] (.slc 4 (Q1L (Qb1 l))) []:=by
 have p8:=fun k h0=>QiH l (by omega) k h0
 obtain⟨kd,ja⟩:=exq (fun k=>(Q3H l k).kind:Int->Int)
 obtain⟨fr,yV⟩:=exq (fun k=>(Q3H l k).from_:Int->Int)
 obtain⟨to,k7⟩:=exq (fun k=>(Q3H l k).to:Int->Int)
 obtain⟨wh,hwh⟩:=exq (fun k=>(Q3H l k).whole:Int->Bool)
 obtain⟨ok,jB⟩:=exq (Q82 l:Int->Bool);have p8:∀k,0<=k->BCall prog 92 [.slc 1 (Q0 l),.val (.int .i64 k)] [] (.tup [.agg [.val (.int .i64 (kd k)),.val (.int .i64 (fr k)),.val (.int .i64 (to k)),.val (.bool (wh k))],.val (.bool (ok k))]) []:=fun k h0=>by rw[ja,yV,k7,hwh,jB];exact p8 k h0
 obtain⟨n,hn⟩:=QC l
 have ze:∀k:Int,0<=k->k<n->to k=((QZ l k.toNat).2.1:Nat)/\k<to k/\to k<=n/\Q1M l k.toNat=⟨kd k,fr k,to k,wh k⟩/\ok k=true:=fun k h0 h1=>by
  have e:=hn.eq;have h2:Q3H l k=Q1M l k.toNat:=by rw[Q3H,if_pos ⟨h0,by omega⟩]
  have h3:=Q3S l k.toNat (by omega)
  have h4:to k=((QZ l k.toNat).2.1:Nat):=by rw[k7];simp only[h2];rfl
  refine⟨h4,by omega,by omega,?_,?_⟩
  ·rw[ja,yV,k7,hwh];simp only[h2]
  ·rw[jB];simp[Q82];omega
 have hend:∀k:Int,0<=k->¬k<n->ok k=false:=fun k h0 h1=>by
  have e:=hn.eq;rw[jB];simp[Q82];omega
 clear ja yV k7 hwh jB;refine fnN (csN kd fr to wh ok) func101 rfl fun _ _=>?_
 with_reducible refine cv1 (Q0 l) ?_
 refine⟨p8 0 (by omega),?_⟩
 refine Q1p (csN kd fr to wh ok) (List Tok×Int) (fun x=>⟨[(0,.slc 1 (Q0 l)),(3,.row 0 0),(4,.box 1 0),(5,.val (.bool (ok x.2)))],[.row 178 4 false 0 (Q1L x.1),.box [.val (.int .i64 (kd x.2)),.val (.int .i64 (fr x.2)),.val (.int .i64 (to x.2)),.val (.bool (wh x.2))]]⟩) (fun x=>0<=x.2/\x.2<=n/\x.1++Q3J l x.2.toNat=Qb1 l/\(x.1.length:Int)<=x.2) (fun x=>(n-x.2).toNat) ([],0) ?_ ?_ ?_
 ·have:=hn.eq
  exact⟨by omega,by simp only;omega,rfl,by simp⟩
 ·exact⟨[none,some 0],_,rfl,by simp[Qf,lk,Q1L]⟩
 ·rintro⟨out,k⟩ ⟨q8,qU,js,jb⟩
  simp only at q8 qU js jb
  have jP:=Qdl out;have en:=hn.eq;have pT:out.length<=1000000:=by omega
  obtain⟨q,hq⟩:=QC out;have jy:q<=k:=by rw[hq.eq];exact jb
  clear en;by_cases hk:k<n
  ·obtain⟨s1,s2,s3,s4,s5⟩:=ze k q8 hk
   have s6:=p8 (to k) (by omega)
   have en:=hn.eq
   have hG:out++[⟨kd k,fr k,to k,wh k⟩]++Q3J l (to k).toNat=Qb1 l:=by
    rw[<-js,Q4x (k:=k.toNat) (by omega),s4,s1,Int.toNat_natCast];simp
   clear s1 en;with_reducible refine cv2 (Q0 l) (Q1L out) ?_
   have eq:=hq.eq;with_reducible repeat' first|refine aU (zA jP <| zA s5 s6) ?_|refine And.intro ?_ ?_|intro hb
   exact⟨(out++[⟨kd k,fr k,to k,wh k⟩],to k),⟨by simp only;omega,s3,hG,by show((out++[_]).length:Int)<=to k;simp only[List.length_append,List.length_singleton];omega⟩,by simp only;omega,[some 0,some 3],_,rfl,by simp[Qf,lk,std,Qj1,Qk3]⟩
  ·have s5:=hend k q8 hk
   have en:=hn.eq;have hG:out=Qb1 l:=by rw[<-js,Q5d (by omega),List.append_nil]
   clear en;with_reducible refine cv2 (Q0 l) (Q1L out) ?_
   with_reducible repeat' first|refine aU s5 ?_|refine And.intro ?_ ?_|intro hb
   rw[if_pos trivial];with_reducible refine cv2 (Q0 l) (Q1L out) ?_
   exact .pure rfl (.inl (by rw[hG]))
def Q15(l:List Int):Int:=if l.getD 0 0=34\/l.getD 0 0=39 then(match(l.drop 1).findIdx? (· == l.getD 0 0)with|some k=>k+2|none=>0)else 0
theorem Qgx{l:List Int}{i:Int}(hq:l.getD 0 0=34\/l.getD 0 0=39)(h1:1<=i)(h2:i<l.length)(h3:∀j:Int,1<=j->j<i->l.getD j.toNat 0≠l.getD 0 0)(h4:l.getD i.toNat 0=l.getD 0 0):Q15 l=i+1:=by
 have hk:i.toNat-1<(l.drop 1).length:=by simp;omega
 have e:(l.drop 1).findIdx? (· == l.getD 0 0)=some (i.toNat-1):=by
  rw[List.findIdx?_eq_some_iff_getElem];refine⟨hk,?_,fun j hj=>?_⟩
  ·have h5:1+(i.toNat-1)=i.toNat:=by omega
   have h6:i.toNat<l.length:=by omega
   simp only[getElem_drop,h5,beq_iff_eq];rw[<-h4,getD_eq_getElem?_getD,getElem?_eq_getElem h6];rfl
  ·have h6:j+1<l.length:=by omega
   have h7:=h3 ((j+1:Nat):Int) (by omega) (by omega)
   rw[Int.toNat_natCast,getD_eq_getElem?_getD,getElem?_eq_getElem h6]at h7;simpa[getElem_drop]using h7
 simp only[Q15,if_pos hq,e];omega
theorem Qfl{l:List Int}(h3:∀j:Int,1<=j->j<l.length->l.getD j.toNat 0≠l.getD 0 0):Q15 l=0:=by
 have e:(l.drop 1).findIdx? (· == l.getD 0 0)=none:=by
  rw[List.findIdx?_eq_none_iff];intro x hx;obtain⟨j,hj,rfl⟩:=List.mem_iff_getElem.1 hx;have h6:j+1<l.length:=by simp at hj;omega
  have h7:=h3 ((j+1:Nat):Int) (by omega) (by omega)
  rw[Int.toNat_natCast,getD_eq_getElem?_getD,getElem?_eq_getElem h6]at h7;simpa[getElem_drop]using h7
 simp only[Q15,e];split<;>rfl
theorem Qm6(l:List Int)(hl:l≠[])(k8:l.length<=1000000000):BCall prog 83 [.slc 1 (Q0 l)] [] (.val (.int .i64 (Q15 l))) []:=by
 refine Qke (cs:=cs0) (ord:=fun _=>.nil) Q5W (by kernel_rfl) func83 rfl (enters_of func83 (by kernel_rfl) rfl) (Nat.le_of_ble_eq_true rfl) (by kernel_rfl) (by kernel_rfl) ?_
 intro w0 g0;generalize hp:std=p;generalize hx:Q0 l=xs;generalize hT:QU p tys cs0 _ _ _ _=T;cbv at hT;subst hT;simp only[Tree.ok];subst hp hx;have j4:0<l.length:=List.length_pos_iff.2 hl;have jC:=Q6 l;have a0:(Q0 l)[0]?.getD .dead=.val (.int .i32 (l[0]?.getD 0)):=Q25 (i:=0) (Int.le_refl 0) (by omega)
 refine⟨?_,?_,fun h1=>⟨?_,?_,fun h2=>.pure rfl (.inl ?_),fun h2=>?_⟩,fun h1=>?_⟩
 ·simp[std,jC,j4]
 ·simp[std,Q3R,a0,AV.cells,intOf]
 ·simp[std,jC,j4]
 ·simp[std,Q3R,a0,AV.cells,intOf]
 ·simp[std,a0,AV.cells,intOf]at h1 h2
  simp[Q15,h1,h2]
 all_goals
  have hq:l.getD 0 0=34\/l.getD 0 0=39:=by
   first
    |(simp[std,a0,AV.cells,intOf]at h2;exact .inr h2)
    |(simp[std,a0,AV.cells,intOf]at h1;exact .inl h1)
  refine Q8f (cs:=cs0) (ord:=fun _=>.nil) Q5W (by kernel_rfl) (by kernel_rfl) (by kernel_rfl) (X:=Int) (fun i=>⟨[(0,.slc 1 (Q0 l)),(3,.val (.int .i64 i))],[]⟩)
   (fun i=>1<=i/\i<=l.length/\∀j:Int,1<=j->j<i->l.getD j.toNat 0≠l.getD 0 0) (fun i=>(l.length-i).toNat) 1 ⟨by omega,by omega,fun j h1 h2=>by omega⟩ ⟨[],_,rfl,?_⟩ ?_
  ·exact⟨rfl,rfl,trivial⟩
  ·rintro i ⟨gH,pP,hi3⟩
   clear h1;generalize hp:std=p;generalize hx:Q0 l=xs;generalize hT:QU p tys cs0 _ _ _ _=T;cbv at hT;subst hT;simp only[Tree.ok,Q2z];subst hp hx;refine⟨fun h1=>?_,fun h1=>?_⟩
   ·have h1:i<l.length:=by simpa[std,jC]using h1
    have ai:=Q25 (l:=l) (i:=i) (by omega) h1
    refine⟨?_,?_,?_,?_,fun h2=>⟨?_,?_⟩,fun h2=>⟨?_,i+1,⟨?_,?_,fun j h3 h4=>?_⟩,?_,[],_,rfl,?_⟩⟩
    ·simp[std,jC];omega
    ·simp[std,Q3R,ai,AV.cells,intOf]
    ·simp[std,jC,j4]
    ·simp[std,Q3R,a0,AV.cells,intOf]
    ·show(-9223372036854775808:Int)<=_/\_<=(9223372036854775807:Int)
     simp[std];omega
    ·generalize hp:std=p
     generalize hx:Q0 l=xs;generalize hT:Q5o p tys _ _ _ _=T;cbv at hT;subst hT;subst hp hx;refine FinOk.pure rfl (.inl ?_);have e:l.getD i.toNat 0=l.getD 0 0:=by simpa[std,ai,a0,AV.cells,intOf]using h2
     rw[Qgx hq gH h1 hi3 e];rfl
    ·show(-9223372036854775808:Int)<=_/\_<=(9223372036854775807:Int)
     simp[std];omega
    ·show(1:Int)<=i+1
     omega
    ·show i+1<=(l.length:Int)
     omega
    ·by_cases qV:j=i
     ·subst qV
      simpa[std,ai,a0,AV.cells,intOf]using h2
     ·exact hi3 j h3 (by omega)
    ·show((l.length:Int)-(i+1)).toNat<((l.length:Int)-i).toNat
     omega
    ·exact⟨rfl,rfl,trivial⟩
   ·have h1:¬i<l.length:=by simpa[std,jC]using h1
    generalize hp:std=p;generalize hx:Q0 l=xs;generalize hT:QU p tys cs0 _ _ _ _=T;cbv at hT;subst hT hp hx;rw[if_pos trivial];refine FinOk.pure rfl (.inl ?_);rw[Qfl (l:=l) (fun j h3 h4=>hi3 j h3 (Int.lt_of_lt_of_le h4 (Int.not_lt.1 h1)))]
def QE(l:List Int)(first:Bool):Int×Int :=
 if first=true/\Q7 l 0 [60,47]=true then(1,2)
 else if first=true/\l.getD 0 0=60 then(1,1)
 else if 0<(Q1R Q8 l 0:Int)then(3,(Q1R Q8 l 0:Int))
 else if 0<(Ql l 0:Int)then(2,(Ql l 0:Int))
 else if l.getD 0 0=61 then(4,1)
 else if 0<Q15 l then(5,Q15 l)
 else if((l.length:Int)=2/\Q7 l 0 [47,62]=true)\/((l.length:Int)=1/\l.getD 0 0=62)then(6,(l.length:Int))
 else(7,1)
def csP(run lead val:Int)(st:ByteArray->Bool):Nat->List AV->List Ob->Option (AV×List Ob):=fun f args _=>match f,args with
 |80,_=>some (.val (.int .i64 run),[])
 |82,_=>some (.val (.int .i64 lead),[])
 |83,_=>some (.val (.int .i64 val),[])
 |11,[_,_,.val (.string s)]=>some (.val (.bool (st s)),[])
 |_,_=>none
theorem Qll(l:List Int)(hl:l≠[])(k8:l.length<=1000000000)(first:Bool):BCall prog 51 [.slc 1 (Q0 l),.val (.bool first)] [] (.tup [.val (.int .i64 (QE l first).1),.val (.int .i64 (QE l first).2)]) []:=by
 obtain⟨run,jQ⟩:=exq ((Q1R Q8 l 0:Int):Int);obtain⟨lead,jD⟩:=exq ((Ql l 0:Int):Int);obtain⟨val,hval⟩:=exq (Q15 l);obtain⟨st,jI⟩:=exq (fun s=>Q7 l 0 s.data.toList:ByteArray->Bool)
 have b1:BCall prog 80 [.slc 1 (Q0 l),.val (.int .i64 0),.val (.func (.func 81) #[] #[])] [] (.val (.int .i64 run)) []:=by
  rw[jQ];exact Qmm l 0 Q8 81 Qkd (fun w=>Qcy w)
 have b2:BCall prog 82 [.slc 1 (Q0 l),.val (.int .i64 0)] [] (.val (.int .i64 lead)) []:=by
  rw[jD];exact Qjf l 0 (by omega) (by omega)
 have b3:BCall prog 83 [.slc 1 (Q0 l)] [] (.val (.int .i64 val)) []:=by
  rw[hval];exact Qm6 l hl k8
 have b4:∀s:ByteArray,s.size<=10->BCall prog 11 [.slc 1 (Q0 l),.val (.int .i64 0),.val (.string s)] [] (.val (.bool (st s))) []:=fun s hs=>by
  rw[jI];exact Q7O l k8 0 (by omega) (by omega) s (by omega)
 obtain⟨n,hn⟩:=QC l;have e1:st ⟨#[60,47]⟩=Q7 l 0 [60,47]:=by rw[jI]
 have e2:st ⟨#[47,62]⟩=Q7 l 0 [47,62]:=by rw[jI]
 have hP:QE l first=((if first=true/\st ⟨#[60,47]⟩=true then(1,2)
   else if first=true/\l.getD 0 0=60 then(1,1)
   else if 0<run then(3,run)
   else if 0<lead then(2,lead)
   else if l.getD 0 0=61 then(4,1)
   else if 0<val then(5,val)
   else if(n=2/\st ⟨#[47,62]⟩=true)\/(n=1/\l.getD 0 0=62)then(6,n)
   else(7,1)):Int×Int):=by
  rw[e1,e2,jQ,jD,hval,hn.eq];rfl
 rw[hP];clear hP e1 e2 jI hval jD jQ;have j4:0<l.length:=List.length_pos_iff.2 hl;have a0:=Q25 (l:=l) (i:=0) (Int.le_refl 0) (by omega)
 obtain⟨r0,yR⟩:=exq (l.getD 0 0);have a0:(Q0 l)[0]?.getD .dead=.val (.int .i32 r0):=by rw[yR,getD_eq_getElem?_getD];exact a0
 have a1:∀h:0<(Q0 l).length,(Q0 l)[0]'h=.val (.int .i32 r0):=fun h=>by rw[getElem?_eq_getElem h]at a0;exact a0
 rw[<-yR];clear yR;cases first
 all_goals
  refine fnN (csP run lead val st) func51 rfl fun _ _=>?_
  with_reducible refine cv1 (Q0 l) ?_
  have en:=hn.eq;have jC:=Q6 l;have zf:0<(Q0 l).length:=by omega
  have qJ:(((Q0 l).length:Nat):Int)=n:=by omega
  have b5:=b4 ⟨#[60,47]⟩ (by decide)
  have b6:=b4 ⟨#[47,62]⟩ (by decide)
  with_reducible repeat' first|refine aU (zA a0 <| zA a1 <| zA qJ <| zA zf <| zA b1 <| zA b2 <| zA b3 <| zA b5 b6) ?_|refine And.intro ?_ ?_|(intro hb;try simp[std,S1,a0,a1,qJ,zf,b1,b2,b3,b5,b6]at hb)
  all_goals
   first
    |refine .pure rfl ⟨.inl ?_,.inl ?_,trivial⟩
     all_goals
      try simp only[std,qJ]
      clear en jC qJ zf j4 hn b1 b2 b3 b4 b5 b6
     all_goals first
      |(simp[*];done)
      |((repeat' split)<;>first|rfl|omega|(simp_all;done)|(simp_all;omega))
    |skip
 all_goals trace_state
