/- Lemmas, conditions told -/
import GoSem.Core.Code
import GoSem.Core.Utf8
import GoSem.Instr.Build
import GoSem.Op.IntBits
import GoSem.Op.Shift
import Derived.Test.YtibemhahkicbpaaGreatL01
import Derived.Laws.Cover4
import Derived.Deep.MidRow
import Derived.Lib.SliceRun
set_option maxRecDepth 99999
set_option maxHeartbeats 0
set_option linter.unusedSimpArgs false
set_option linter.unusedVariables false
namespace Go.Proofs.YtibemhahkicbpaaGreat
open List(getElem?_eq_getElem getElem?_append_left getElem?_append_right getElem?_drop flatMap_cons mem_cons_self mem_cons_of_mem mem_of_mem_take length_take take_length)
open Nat(succ_mul min_eq_left le_refl add_assoc)
section
theorem exq{α:Sort _}(a:α):∃x,x=a:=⟨a,rfl⟩
inductive AV where
 |val (v:Value)
 |slc (sz:Nat) (xs:List AV)
 |agg (cs:List AV)
 |ref (cs:List AV)
 |tup (vs:List AV)
 |box (id off:Nat)
 |row (id ep:Nat)
 |rowk (id ep:Nat) (k:Int)
 |rptr (id ep:Nat) (i:Int) (off:Nat)
 |kb (t:Bool)
 |iter (id:Nat)
 |opt (x:AV)
 |dead
 deriving Inhabited
def AV.cells:AV->List AV
 |.agg cs=>cs
 |x=>[x]
def AV.live:AV->Bool
 |.dead=>false
 |.tup _=>false
 |_=>true
def AV.pur0:AV->Bool
 |.val _=>true
 |.slc _ _=>true
 |.ref _=>true
 |.opt _=>true
 |_=>false
def AV.pur:AV->Bool
 |.agg cs=>cs.all AV.pur0
 |x=>x.pur0
inductive Ob where
 |box (cs:List AV)
 |fbox (cs:List AV)
 |row (et sz:Nat) (fz:Bool) (ep:Nat) (xs:List AV)
 |iter (s:ByteArray) (pos:Nat)
 |gone
 deriving Inhabited
structure St where
 tm:List (Nat×AV)
 ob:List Ob
structure TI where
 size:Nat
 agg:Bool
 elem:Nat
 flds:List (Nat×Nat)
 zero:List Value
 kind:Option IntKind
 bytes:Nat
 sl:Bool
 kd:Nat
 ok:Bool:=true
structure DP where
 q:Prop
 b:Bool
 h:b=true↔q
instance:CoeSort DP Prop:=⟨DP.q⟩
structure Pr where
 eqI:Int->Int->Bool
 ltI:Int->Int->Bool
 leI:Int->Int->Bool
 add:Int->Int->Int
 sub:Int->Int->Int
 mul:Int->Int->Int
 quo:Int->Int->Int
 rem:Int->Int->Int
 inR:IntKind->Int->DP
 nz:Int->DP
 wrap:IntKind->Int->Int
 minI:Int->Int->Int
 maxI:Int->Int->Int
 notB:Bool->Bool
 eqB:Bool->Bool->Bool
 andB:Bool->Bool->Bool
 bits:BinOp->IntKind->Int->Int->Int
 shl:IntKind->Int->Int->Int
 shr:Int->Int->Int
 nn:Int->DP
 emp:List AV->DP
 eqS:ByteArray->ByteArray->Bool
 catS:ByteArray->ByteArray->ByteArray
 catok:ByteArray->ByteArray->DP
 szS:ByteArray->Int
 idxS:ByteArray->Int->Int
 cutS:ByteArray->Int->Int->ByteArray
 bytesS:ByteArray->List AV
 strB:List AV->ByteArray
 isB:List AV->DP
 strR:List AV->ByteArray
 encS:Int->ByteArray
 isR:List AV->DP
 len:List AV->Int
 at_:List AV->Int->AV
 inb:Int->Int->DP
 cut:List AV->Int->Int->List AV
 cutok:Int->Int->Int->DP
 app:List AV->List AV->List AV
 bnd:List AV->List AV->DP
 more:List AV->DP
 itmore:ByteArray->Nat->Bool
 itr:ByteArray->Nat->Int
 itp:ByteArray->Nat->Nat
 toI:Nat->Int
 szok:ByteArray->DP
 nth:List AV->Nat->AV
 cel:AV->List AV
 drp:List AV->Nat->List AV
 int:AV->Int
 boo:AV->Bool
 str:AV->ByteArray
 lst:AV->List AV
 prf:AV->List AV
 isN:AV->Bool
 uno:AV->AV
 hasI:IntKind->AV->DP
 hasB:AV->DP
 hasS:AV->DP
 hasL:Nat->AV->DP
 hasP:AV->DP
 hasR:AV->DP
 all:List DP->DP
 setx:List AV->Int->Nat->List AV->List AV
def lk(t:Nat):List (Nat×AV)->AV
 | []=>.dead
 |(u,x)::r=>if t=u then x else lk t r
def Qp6:Value->Bool
 |.agg _|.tuple _=>false
 |_=>true
def ev(s:St):Operand->AV
 |.tmp t=>match lk t s.tm with|.kb b=>.val (.bool b)|x=>x
 |.const v=>if Qp6 v then .val v else .dead
 |.global _=>.dead
 |.func f=>.val (.func (.func f) #[] #[])
def evk(s:St):Operand->AV
 |.tmp t=>lk t s.tm
 |.const (.bool b)=>.kb b
 |x=>ev s x
abbrev Tys:=Unit->List (Nat×TI)
def Q6l(t:Nat):List (Nat×TI)->TI
 | []=>⟨0,false,0,[],[],none,0,false,0,false⟩
 |(u,x)::r=>if t=u then x else Q6l t r
def Q5(t:Nat)(ty:Tys):TI:=Q6l t (ty ())
inductive Lf where
 |int (k:IntKind)
 |boo
 |str
 |slc (sz:Nat)
 |ptr
inductive Ex where
 |normal
 |exit (id:Nat)
 |ret
inductive Srt where
 |int (k:IntKind)
 |boo
 |str
inductive Tree where
 |leaf (e:Ex) (s:St)
 |br (c:Bool) (t f:Tree)
 |need (q:DP) (t:Tree)
 |call (f:Nat) (args:List AV) (ob:List Ob) (res:AV) (ob':List Ob) (t:Tree)
 |both (a b:Tree)
 |either (q:DP) (a b:Tree)
 |ask (T:Nat) (sh:List Srt) (t:Tree)
 |loop (body:Code) (s:St) (K:Ex->St->Tree)
 |stuck (n:Nat)
def roT(T:Nat):Bool:=T == 38||T == 32
def Q5U:Nat:=99
def Qiz:Nat:=3
def Q9x:List AV->Bool
 | []=>true
 |x::r=>match x.cells with
  | [_,.val (.slice none 0 0)]=>Q9x r
  |_=>false
def Qb9(E:Nat)(xs:List AV):Bool:=if E=Q5U then Q9x xs else true
def setCells(cs:List AV)(off:Nat)(new:List AV):List AV:=cs.take off++new++cs.drop (off+new.length)
def St.put(s:St)(d:Option Nat)(x:AV):St:=match d with|some t=>⟨(t,x)::s.tm,s.ob⟩|none=>s
section
variable (p:Pr) (ty:Tys)
def mk(T:Nat)(cs:List AV):AV :=
 if(Q5 T ty).agg then .agg (cs.take (Q5 T ty).size)else cs.headD .dead
def Q8d(s:St):AV->Option (List AV)
 |.ref cs=>some cs
 |.box id off=>match s.ob[id]? with|some (.box cs)|some (.fbox cs)=>some (cs.drop off)|_=>none
 |_=>none
def QdC:Nat->Nat->Option (List Lf)
 |0,_=>none
 |n+1,T=>match(Q5 T ty).kd with
  |1=>(Q5 T ty).flds.foldl (fun acc f=>match acc,QdC n f.2 with
   |some a,some b=>some (a++b)
   |_,_=>none) (some [])
  |2=>some [.slc (Q5 (Q5 T ty).elem ty).size]
  |3=>match(Q5 T ty).kind with
   |some k=>some [.int k]
   |none=>none
  |4=>some [.ptr]
  |5=>some [.boo]
  |6=>some [.str]
  |_=>none
def QoV(T:Nat):Bool:=match(Q5 T ty).kd with
 |4=>true
 |1=>if roT T then false else(match QdC ty 5 T with
  |some ls=>ls.any fun|.ptr=>true|_=>false
  |none=>true)
 |_=>false
def Lf.exp(c:AV):Lf->AV
 |.int k=>.val (.int k (p.int c))
 |.boo=>.val (.bool (p.boo c))
 |.str=>.val (.string (p.str c))
 |.slc sz=>.slc sz (p.lst c)
 |.ptr=>.opt (p.uno c)
def Lf.has(c:AV):Lf->DP
 |.int k=>p.hasI k c
 |.boo=>p.hasB c
 |.str=>p.hasS c
 |.slc sz=>p.hasL sz c
 |.ptr=>p.hasP c
def Q9q(cs:List AV):Nat->List Lf->List AV
 |_,[]=>[]
 |j,l::r=>l.exp p (p.nth cs j)::Q9q cs (j+1) r
def Q8Y(cs:List AV):Nat->List Lf->List DP
 |_,[]=>[]
 |j,l::r=>l.has p (p.nth cs j)::Q8Y cs (j+1) r
def Qnk(T:Nat):Option (List Lf):=if Nat.ble 100 (Q5 T ty).kd then(match QdC ty 4 (Q5 T ty).elem with
 |some a=>some (List.replicate ((Q5 T ty).kd-100) a).flatten
 |none=>none)else none
def QmV(T:Nat)(cs:List AV):Option (Option DP×AV) :=
 match QdC ty 5 T with
 |some ls=>if(Q5 T ty).ok=true/\ls.length=(Q5 T ty).size then some (some (p.all (Q8Y p cs 0 ls)),mk ty T (Q9q p cs 0 ls))else none
 |none=>match Qnk ty T with
  |some ls=>if(Q5 T ty).ok=true/\ls.length=(Q5 T ty).size then some (some (p.all (Q8Y p cs 0 ls)),mk ty T (Q9q p cs 0 ls))else none
  |none=>none
def Q7t(s:St):AV->Option (Nat×List AV)
 |.slc sz xs=>some (sz,xs)
 |.row id ep=>match s.ob[id]? with|some (.row _ sz _ e xs)=>if e=ep then some (sz,xs)else none|_=>none
 |.rowk id ep k=>match s.ob[id]? with|some (.row _ sz _ e xs)=>if e=ep then some (sz,p.cut xs 0 k)else none|_=>none
 |_=>none
def QoE(op:BinOp)(k:IntKind)(a b:Int):Option (Option DP×Value) :=
 match op with
 |.add=>some (some (p.inR k (p.add a b)),.int k (p.add a b))
 |.sub=>some (some (p.inR k (p.sub a b)),.int k (p.sub a b))
 |.mul=>some (some (p.inR k (p.mul a b)),.int k (p.mul a b))
 |.eql=>some (none,.bool (p.eqI a b))
 |.neq=>some (none,.bool (p.notB (p.eqI a b)))
 |.lss=>some (none,.bool (p.ltI a b))
 |.leq=>some (none,.bool (p.leI a b))
 |.gtr=>some (none,.bool (p.ltI b a))
 |.geq=>some (none,.bool (p.leI b a))
 |.and=>some (none,.int k (p.bits .and k a b))
 |.or=>some (none,.int k (p.bits .or k a b))
 |.xor=>some (none,.int k (p.bits .xor k a b))
 |.andNot=>some (none,.int k (p.bits .andNot k a b))
 |.quo=>some (some (p.all [p.nz b,p.inR k (p.quo a b)]),.int k (p.quo a b))
 |.rem=>some (some (p.all [p.nz b,p.inR k (p.rem a b)]),.int k (p.rem a b))
 |_=>none
def Qox(s:St)(x y:Operand):Option (List AV):=match ev s x,ev s y with
 |.slc _ xs,.val (.slice none _ _)=>some xs
 |_,_=>none
def Qpz(s:St)(T:Nat)(op:BinOp):AV->AV->Option (Option DP×AV)
 |.val (.int k a),.val (.int k' b)=>match op with
  |.shl=>some (some (p.nn b),.val (.int k (p.shl k a b)))
  |.shr=>some (some (p.nn b),.val (.int k (p.shr a (p.minI (p.toI k.bits) b))))
  |op=>if k=k' then(QoE p op k a b).map fun(q,v)=>(q,.val v)else none
 |.val (.string a),.val (.string b)=>match op with
  |.eql=>some (none,.val (.bool (p.eqS a b)))
  |.neq=>some (none,.val (.bool (p.notB (p.eqS a b))))
  |.add=>some (some (p.catok a b),.val (.string (p.catS a b)))
  |_=>none
 |.val (.bool a),.val (.bool b)=>if(Q5 T ty).kd=5 then(match op with
  |.eql=>some (none,.val (.bool (p.eqB a b)))
  |.neq=>some (none,.val (.bool (p.notB (p.eqB a b))))
  |_=>none)else none
 |.val (.slice none _ _),.val (.slice none _ _)=>if(Q5 T ty).kd=2 then(match op with
  |.eql=>some (none,.val (.bool true))
  |.neq=>some (none,.val (.bool false))
  |_=>none)else none
 |.val (.pointer none),.val (.pointer none)=>if(Q5 T ty).kd=4 then(match op with
  |.eql=>some (none,.val (.bool true))
  |.neq=>some (none,.val (.bool false))
  |_=>none)else none
 |.ref _,.val (.pointer none)|.box _ _,.val (.pointer none)=>if(Q5 T ty).kd=4 then(match op with
  |.eql=>some (none,.val (.bool false))
  |.neq=>some (none,.val (.bool true))
  |_=>none)else none
 |.opt x,.val (.pointer none)=>if(Q5 T ty).kd=4 then(match op with
  |.eql=>some (none,.val (.bool (p.isN x)))
  |.neq=>some (none,.val (.bool (p.notB (p.isN x))))
  |_=>none)else none
 |x,.val (.slice none _ _)=>match Q7t p s x with
  |some (_,xs)=>if(Q5 T ty).kd=2 then(match op with
   |.eql=>some (some (p.more xs),.val (.bool false))
   |.neq=>some (some (p.more xs),.val (.bool true))
   |_=>none)else none
  |none=>none
 |_,_=>none
def eqC:AV->AV->Option (Srt×Bool)
 |.val (.int k a),.val (.int k' b)=>if k=k' then some (.int k,p.eqI a b)else none
 |.val (.bool a),.val (.bool b)=>some (.boo,p.eqB a b)
 |.val (.string a),.val (.string b)=>some (.str,p.eqS a b)
 |_,_=>none
def Qjx:List AV->List AV->Option (List Srt×Bool)
 | [],[]=>some ([],true)
 |x::r,y::r'=>match eqC p x y,Qjx r r' with
  |some (s,a),some (ss,b)=>some (s::ss,p.andB a b)
  |_,_=>none
 |_,_=>none
def Qjo(s:St)(op:BinOp)(x y:Operand):Option (List Srt×Bool):=match ev s x,ev s y with
 |.agg cs,.agg ds=>match Qjx p cs ds with
  |some (sh,b)=>match op with
   |.eql=>some (sh,b)
   |.neq=>some (sh,p.notB b)
   |_=>none
  |none=>none
 |_,_=>none
def Qc3(flds:List (Nat×Nat))(cs:List AV):List (Nat×AV)->Option (List AV)
 | []=>some cs
 |(i,x)::r=>match flds[i]? with
  |some (off,t)=>if x.live=true/\(Q5 t ty).ok=true/\x.cells.length=(Q5 t ty).size/\off+x.cells.length<=cs.length then Qc3 flds (setCells cs off x.cells) r else none
  |none=>none
def Q6z(T sz:Nat):Bool:=(Q5 T ty).ok&&(Q5 T ty).sl&&(Q5 (Q5 T ty).elem ty).ok&&sz == (Q5 (Q5 T ty).elem ty).size&&sz != 0
def QlZ(T:Nat)(k:Int):Bool:=Nat.ble 100 (Q5 T ty).kd&&((Q5 (Q5 T ty).elem ty).ok&&(decide (0<=k)&&decide (k<((Q5 T ty).kd-100:Nat))))
def fOk(t:Nat):Bool:=(Q5 t ty).ok&&(Q5 t ty).size != 0
def Q2O(s:St):Op->Option (Option DP×AV)
 |.move x|.assign x=>some (none,evk s x)
 |.pick c a b=>match ev s c with
  |.val (.bool t)=>some (none,match t with|true=>evk s a|false=>evk s b)
  |_=>none
 |.build T parts=>if(Q5 T ty).ok=true/\(Q5 T ty).kd=1 then
   (Qc3 ty (Q5 T ty).flds ((Q5 T ty).zero.map .val) (parts.toList.map fun(i,x)=>(i,ev s x))).map fun cs=>(none,.agg cs)
  else if(Q5 T ty).ok=true/\100<=(Q5 T ty).kd/\(Q5 (Q5 T ty).elem ty).ok=true then
   (Qc3 ty ((List.range ((Q5 T ty).kd-100)).map fun i=>(i * (Q5 (Q5 T ty).elem ty).size,(Q5 T ty).elem)) ((Q5 T ty).zero.map .val) (parts.toList.map fun(i,x)=>(i,ev s x))).map fun cs=>(none,.agg cs)
  else none
 |.load T a=>match ev s a with
  |.ref cs=>QmV p ty T cs
  |.rptr id ep i off=>match s.ob[id]? with
   |some (.row _ _ _ e xs)=>if e=ep then QmV p ty T (p.drp (p.cel (p.at_ xs i)) off)else none
   |_=>none
  |x=>match Q8d s x with
   |some cs=>if(Q5 T ty).ok=true/\(if(Q5 T ty).agg then(Q5 T ty).size else 1)<=cs.length then some (none,mk ty T cs)else none
   |none=>none
 |.nilCheck x=>match ev s x with
  |.ref cs=>some (none,.ref cs)
  |.box id o=>some (none,.box id o)
  |.opt x=>some (some (p.hasR x),.ref (p.prf x))
  |.rptr id ep i off=>match s.ob[id]? with
   |some (.row _ _ _ e _)=>if e=ep then some (none,.rptr id ep i off)else none
   |_=>none
  |.val (.func (.func g) a c)=>some (none,.val (.func (.func g) a c))
  |_=>none
 |.binOp op T x y _=>Qpz p ty s T op (ev s x) (ev s y)
 |.unOp op _ x=>match op,ev s x with
  |.not,.val (.bool b)=>some (none,.val (.bool (p.notB b)))
  |.neg,.val (.int k n)=>some (some (p.inR k (p.sub 0 n)),.val (.int k (p.sub 0 n)))
  |_,_=>none
 |.convert src dst x=>if(Q5 src ty).ok then(match ev s x with
  |.val (.int _ n)=>match(Q5 dst ty).kind with
   |some k=>some (none,.val (.int k (p.wrap k n)))
   |none=>if(Q5 dst ty).kd=6 then some (none,.val (.string (p.encS n)))else none
  |.val (.string b)=>if(Q5 dst ty).kd=6 then some (none,.val (.string b))else none
  |v=>match Q7t p s v with
   |some (1,xs)=>if(Q5 dst ty).kd=6/\(Q5 src ty).sl=true then(match(Q5 (Q5 src ty).elem ty).kind with
    |some .u8=>some (some (p.isB xs),.val (.string (p.strB xs)))
    |some .i32=>some (some (p.isR xs),.val (.string (p.strR xs)))
    |_=>none)else none
   |_=>none)else none
 |.makeFunc fn first captured=>if first.isEmpty/\captured.isEmpty then some (none,.val (.func fn #[] #[]))else none
 |.fieldAddr T x f=>match(Q5 T ty).flds[f]? with
  |some (off,t)=>match ev s x with
   |.ref cs=>if fOk ty t then some (none,.ref (p.drp cs off))else none
   |.box id o=>if fOk ty t then some (none,.box id (o+off))else none
   |.rptr id ep i o=>match s.ob[id]? with
    |some (.row _ _ _ e _)=>if e=ep/\fOk ty t=true then some (none,.rptr id ep i (o+off))else none
    |_=>none
   |_=>none
  |none=>none
 |.field T x f=>match(Q5 T ty).flds[f]?,ev s x with
  |some (off,t),.agg cs=>if(Q5 t ty).ok=true/\off+(if(Q5 t ty).agg then(Q5 t ty).size else 1)<=cs.length then some (none,mk ty t (cs.drop off))else none
  |_,_=>none
 |.indexAddr T x i=>match ev s i with
  |.val (.int _ k)=>match ev s x with
   |.slc sz xs=>if Q6z ty T sz=true then some (some (p.inb k (p.len xs)),.ref (p.cel (p.at_ xs k)))else none
   |.row id ep=>match s.ob[id]? with
    |some (.row _ sz _ e xs)=>if e=ep/\Q6z ty T sz=true then some (some (p.inb k (p.len xs)),.rptr id ep k 0)else none
    |_=>none
   |.box id o=>if QlZ ty T k then some (none,.box id (o+k.toNat * (Q5 (Q5 T ty).elem ty).size))else none
   |.ref cs=>if QlZ ty T k then some (none,.ref (p.drp cs (k.toNat * (Q5 (Q5 T ty).elem ty).size)))else none
   |_=>none
  |_=>none
 |.index T x i=>match ev s x,ev s i with
  |.agg cs,.val (.int _ k) =>
   if 100<=(Q5 T ty).kd/\(Q5 (Q5 T ty).elem ty).ok=true/\0<=k/\k<((Q5 T ty).kd-100:Nat)/\k.toNat * (Q5 (Q5 T ty).elem ty).size+(if(Q5 (Q5 T ty).elem ty).agg then(Q5 (Q5 T ty).elem ty).size else 1)<=cs.length then
    some (none,mk ty (Q5 T ty).elem (cs.drop (k.toNat * (Q5 (Q5 T ty).elem ty).size)))else none
  |.val (.string b),.val (.int _ k)=>if(Q5 T ty).kd=6 then some (some (p.inb k (p.szS b)),.val (.int .u8 (p.idxS b k)))else none
  |_,_=>none
 |.slice T x lo hi none=>match ev s x with
  |.val (.string b)=>if(Q5 T ty).kd=6 then(match lo.map (ev s),hi.map (ev s)with
   |none,none=>some (none,.val (.string b))
   |some (.val (.int _ l)),none=>some (some (p.cutok l (p.szS b) (p.szS b)),.val (.string (p.cutS b l (p.szS b))))
   |none,some (.val (.int _ h))=>some (some (p.cutok 0 h (p.szS b)),.val (.string (p.cutS b 0 h)))
   |some (.val (.int _ l)),some (.val (.int _ h))=>some (some (p.cutok l h (p.szS b)),.val (.string (p.cutS b l h)))
   |_,_=>none)else none
  |.slc sz xs=>if Q6z ty T sz=true then(match lo.map (ev s),hi.map (ev s)with
   |none,none=>some (none,.slc sz xs)
   |some (.val (.int _ l)),none=>some (some (p.cutok l (p.len xs) (p.len xs)),.slc sz (p.cut xs l (p.len xs)))
   |none,some (.val (.int _ h))=>some (some (p.cutok 0 h (p.len xs)),.slc sz (p.cut xs 0 h))
   |some (.val (.int _ l)),some (.val (.int _ h))=>some (some (p.cutok l h (p.len xs)),.slc sz (p.cut xs l h))
   |_,_=>none)else none
  |.row id ep=>match s.ob[id]? with
   |some (.row _ sz _ e xs)=>if e=ep/\Q6z ty T sz=true then(match lo.map (ev s),hi.map (ev s)with
    |none,some (.val (.int _ h))=>some (some (p.cutok 0 h (p.len xs)),.rowk id ep h)
    |_,_=>none)else none
   |_=>none
  |_=>none
 |.extract t i=>match ev s t with
  |.tup vs=>(vs[i]?).map fun x=>(none,x)
  |_=>none
 |.call { callee:=.builtin .len,args,argTypes }=>match args.toList,argTypes.toList with
  | [x],T::_=>match ev s x with
   |.val (.string b)=>if(Q5 T ty).kd=6 then some (none,.val (.int .i64 (p.szS b)))else none
   |.val (.slice none 0 0)=>if(Q5 T ty).sl=true then some (none,.val (.int .i64 0))else none
   |v=>match Q7t p s v with
    |some (_,xs)=>if(Q5 T ty).sl=true then some (none,.val (.int .i64 (p.len xs)))else none
    |none=>none
  |_,_=>none
 |.call { callee:=.builtin .min,args,.. }=>match args.toList.map (ev s)with
  | [.val (.int k a),.val (.int _ b)]=>some (none,.val (.int k (p.minI a b)))
  |_=>none
 |.call { callee:=.builtin .max,args,.. }=>match args.toList.map (ev s)with
  | [.val (.int k a),.val (.int _ b)]=>some (none,.val (.int k (p.maxI a b)))
  |_=>none
 |_=>none
def Q4r(f:List Ob->AV->Option (AV×List Ob)):List Ob->List AV->Option (List AV×List Ob)
 |ob,[]=>some ([],ob)
 |ob,x::xs=>match f ob x with
  |some (y,ob1)=>match Q4r f ob1 xs with
   |some (ys,ob2)=>some (y::ys,ob2)
   |none=>none
  |none=>none
def frz(keep:Bool):Nat->List Ob->AV->Option (AV×List Ob)
 |0,_,_=>none
 |n+1,ob,x=>match x with
  |.val v=>some (.val v,ob)
  |.kb t=>some (.val (.bool t),ob)
  |.slc sz xs=>some (.slc sz xs,ob)
  |.ref cs=>some (.ref cs,ob)
  |.opt x=>some (.opt x,ob)
  |.agg cs=>(Q4r (frz keep n) ob cs).map fun(ys,ob)=>(.agg ys,ob)
  |.row id ep=>match ob[id]? with
   |some (.row et sz _ e xs)=>if e=ep then some (.slc sz xs,ob.set id (.row et sz true e xs))else none
   |_=>none
  |.rowk id ep k=>match ob[id]? with
   |some (.row et sz _ e xs)=>if e=ep then some (.slc sz (p.cut xs 0 k),ob.set id (.row et sz true e xs))else none
   |_=>none
  |.box id off=>if keep then some (.box id off,ob)else(match ob[id]? with
   |some (.box cs)=>match Q4r (frz keep n) ob cs with
    |some (cs',ob')=>match ob'[id]? with
     |some (.box _)=>some (.ref (cs'.drop off),ob'.set id (.fbox cs'))
     |_=>none
    |none=>none
   |some (.fbox cs)=>some (.ref (cs.drop off),ob)
   |_=>none)
  |_=>none
def Qo3:AV->List Nat
 |.box id _=>[id]
 |.row id _=>[id]
 |.rowk id _ _=>[id]
 |.agg cs=>cs.flatMap fun|.box id _=>[id]|.row id _=>[id]|.rowk id _ _=>[id]|_=>[]
 |_=>[]
def Qpa:Ob->List Nat
 |.box cs=>cs.flatMap Qo3
 |_=>[]
def Qfu(ob:List Ob):Nat->List Nat->List Nat->List Nat
 |0,acc,_=>acc
 |_,acc,[]=>acc
 |n+1,acc,i::r=>if acc.contains i then Qfu ob n acc r else Qfu ob n (acc++[i]) (Qpa (ob.getD i .gone)++r)
def Q1X(i:Nat):List Nat->Option Nat
 | []=>none
 |j::r=>if i=j then some 0 else(Q1X i r).map (· + 1)
def Qi0(ρ:List (Option Nat))(i:Nat):Option Nat:=(List.range ρ.length).find? fun j=>ρ[j]? == some (some i)
def Q32(ρ:List (Option Nat)):Bool:=(List.range ρ.length).all fun j=>match ρ[j]? with
 |some (some i)=>Qi0 ρ i == some j
 |_=>true
def inC(ob:List Ob)(ρ:List Nat):AV->AV
 |.box i o=>match Q1X i ρ with
  |some j=>.box j o
  |none=>.dead
 |.row i e=>match Q1X i ρ with
  |some j=>(match ob[i]? with
   |some (.row _ _ _ e2 _)=>if e2=e then .row j 0 else .dead
   |_=>.dead)
  |none=>.dead
 |.val v=>.val v
 |.slc sz xs=>.slc sz xs
 |.ref cs=>.ref cs
 |.opt x=>.opt x
 |.kb b=>.kb b
 |_=>.dead
def inA(ob:List Ob)(ρ:List Nat):AV->AV
 |.agg cs=>.agg (cs.map (inC ob ρ))
 |x=>inC ob ρ x
def inO(ob:List Ob)(ρ:List Nat):Ob->Ob
 |.box cs=>.box (cs.map (inC ob ρ))
 |.row et sz fz _ xs=>.row et sz fz 0 xs
 |x=>x
def QoA(ob:List Ob)(i:Nat):Nat:=match ob[i]? with
 |some (.row _ _ _ e _)=>e
 |_=>0
def Q3p(ρ:List Nat)(n j:Nat):Nat:=if j<ρ.length then ρ.getD j 0 else n+(j-ρ.length)
def Q9r(ob:List Ob)(ρ:List Nat)(j:Nat):Nat:=match ρ[j]? with
 |some i=>QoA ob i
 |none=>0
def QjX(ob:List Ob)(ρ:List Nat):AV->AV
 |.box j o=>.box (Q3p ρ ob.length j) o
 |.row j e=>.row (Q3p ρ ob.length j) (Q9r ob ρ j+e)
 |.rowk j e k=>.rowk (Q3p ρ ob.length j) (Q9r ob ρ j+e) k
 |.rptr j e i o=>.rptr (Q3p ρ ob.length j) (Q9r ob ρ j+e) i o
 |.iter j=>.iter (Q3p ρ ob.length j)
 |x=>x
def Qkx(ob:List Ob)(ρ:List Nat):AV->AV
 |.agg cs=>.agg (cs.map (QjX ob ρ))
 |x=>QjX ob ρ x
def Qoe(ob:List Ob)(ρ:List Nat):AV->AV
 |.tup xs=>.tup (xs.map (Qkx ob ρ))
 |x=>Qkx ob ρ x
def Qgb(ob:List Ob)(ρ:List Nat)(j:Nat):Ob->Ob
 |.box cs=>.box (cs.map (QjX ob ρ))
 |.row et sz fz e xs=>.row et sz fz (Q9r ob ρ j+e) xs
 |x=>x
def Q6h(ob:List Ob)(ρ:List Nat)(ob':List Ob):List Ob :=
 (List.range (ob.length+(ob'.length-ρ.length))).map fun id=>match Q1X id ρ with
  |some j=>Qgb ob ρ j (ob'.getD j .gone)
  |none=>if id<ob.length then ob.getD id .gone else Qgb ob ρ (ρ.length+(id-ob.length)) (ob'.getD (ρ.length+(id-ob.length)) .gone)
def there(ob:List Ob)(ρ:List Nat):Bool:=ρ.all fun i=>match ob[i]? with
 |some .gone|none=>false
 |_=>true
def Qkc(sz:Nat)(xs:List AV):Bool:=xs.all fun x=>x.cells.length == sz
def QbU(s:St)(E U:Nat)(y:AV):Option (Nat×List AV) :=
 match y with
 |.val (.string b)=>if(Q5 U ty).kd=6/\(Q5 E ty).kind=some .u8 then some (1,p.bytesS b)else none
 |.val (.slice none 0 0)=>if(Q5 U ty).sl=true then some ((Q5 E ty).size,[])else none
 |v=>if(Q5 U ty).sl=true then Q7t p s v else none
def Q3X(K:St->Tree)(o:Oper)(s:St)(op:Op):Tree :=
 match Q2O p ty s op with
 |some (none,v)=>K (St.put s o.dst v)
 |some (some q,v)=>.need q (K (St.put s o.dst v))
 |none=>match op with
  |.convert src dst x=>match ev s x with
   |.val (.string b)=>if(Q5 src ty).kd=6/\(Q5 dst ty).sl=true/\(Q5 (Q5 dst ty).elem ty).kind=some .u8 then .need (p.szok b) (K (St.put s o.dst (.slc 1 (p.bytesS b))))else .stuck 19
   |.row id ep=>match s.ob[id]? with
    |some (.row et sz false e xs)=>if e=ep/\src=dst/\sz=1/\(Q5 src ty).sl=true/\(Q5 (Q5 src ty).elem ty).kind=some .u8 then .need (p.more xs) (K (St.put ⟨s.tm,s.ob.set id (.row et sz true (e+1) xs)⟩ o.dst (.slc 1 xs)))else .stuck 23
    |_=>.stuck 24
   |_=>.stuck 21
  |_=>.stuck 22
def Qas(s:St):Operand->St
 |.tmp t=>match lk t s.tm with
  |.rowk id ep k=>match s.ob[id]? with
   |some (.row et sz false e xs)=>if e=ep then⟨(t,.row id (e+1))::s.tm,s.ob.set id (.row et sz false (e+1) (p.cut xs 0 k))⟩else s
   |_=>s
  |_=>s
 |_=>s
def QoQ(s:St):Operand->St
 |.tmp t=>match lk t s.tm with
  |.row id ep=>match frz p true 9 s.ob (.row id ep)with
   |some (v,ob)=>⟨(t,v)::s.tm,ob⟩
   |none=>s
  |.rowk id ep k=>match frz p true 9 s.ob (.rowk id ep k)with
   |some (v,ob)=>⟨(t,v)::s.tm,ob⟩
   |none=>s
  |_=>s
 |_=>s
def QeZ(K:St->Tree)(o:Oper)(s:St)(T:Nat)(a x:Operand):Tree :=
 match ev s a with
  |.box id off=>match s.ob[id]? with
   |some (.box c)=>if(ev s x).live=true/\(Q5 T ty).ok=true/\(ev s x).cells.length=(Q5 T ty).size/\off+(ev s x).cells.length<=c.length then
     K (St.put ⟨s.tm,s.ob.set id (.box (setCells c off (ev s x).cells))⟩ o.dst .dead)else .stuck 1
   |_=>.stuck 2
  |.rptr id ep i off=>match s.ob[id]? with
   |some (.row et sz false e xs)=>if e=ep/\et≠Q5U/\(ev s x).pur=true/\(Q5 T ty).ok=true/\(ev s x).cells.length=(Q5 T ty).size/\(ev s x).cells.length≠0/\off+(ev s x).cells.length<=sz then
     K (St.put ⟨s.tm,s.ob.set id (.row et sz false e (p.setx xs i off (ev s x).cells))⟩ o.dst .dead)else .stuck 90
   |_=>.stuck 91
  |_=>.stuck 3
def Qpp(cs:Nat->List AV->List Ob->Option (AV×List Ob))(o:Oper)(g:Nat)(args:List AV)(ob:List Ob):Option (AV×List Ob) :=
 match cs g args ob with
 |some r=>some r
 |none=>match o.dst with
  |some d=>cs (1000000+d) args ob
  |none=>none
def QtW:Operand->Bool
 |.func g=>g == 63
 |.const (.func (.func g) _ _)=>g == 63
 |_=>false
def Qt4(f:Operand)(ob:List Ob)(xs:List AV):Option (List AV×List Ob):=if QtW f=true then(if xs.all AV.live=true then some (xs,ob)else none)else Q4r (frz p true 9) ob xs
def aop(cs:Nat->List AV->List Ob->Option (AV×List Ob))(K:St->Tree)(o:Oper)(s:St):Tree :=
 match o.op with
 |.alloc T=>if(Q5 T ty).ok then K (St.put ⟨s.tm,s.ob++[.box ((Q5 T ty).zero.map .val)]⟩ o.dst (.box s.ob.length 0))else .stuck 50
 |.box _ x=>if(ev s x).live then K (St.put ⟨s.tm,s.ob++[.box (ev s x).cells]⟩ o.dst (.box s.ob.length 0))else .stuck 51
 |.assign x=>Q3X p ty K o (Qas p s x) (.assign x)
 |.store T a x=>QeZ p ty K o (Qas p s x) T a x
 |.buildSlice T len parts =>
  let E:=(Q5 T ty).elem
  match Q4r (frz p true 9) s.ob (parts.toList.map fun x=>ev s x.2)with
  |some (xs,ob) =>
   if Qb9 E xs=true/\Q6z ty T (Q5 E ty).size=true/\Qkc (Q5 E ty).size xs=true/\xs.all AV.pur=true/\len<=4000/\(Q5 E ty).size<=4000/\parts.toList.map (·.1)=List.range len then
    K (St.put ⟨s.tm,ob++[.row E (Q5 E ty).size false 0 xs]⟩ o.dst (.row ob.length 0))else .stuck 4
  |none=>.stuck 5
 |.call { callee:=.builtin .append,args,argTypes }=>match args.toList,argTypes.toList with
  | [x,y],[T,U] =>
   let E:=(Q5 T ty).elem
   match QbU p ty s E U (ev s y)with
   |some (sz,news)=>if Qb9 E news=true/\Q6z ty T sz=true then(match ev s x with
    |.val (.slice none 0 0)=>.need (p.bnd [] news) (K (St.put ⟨s.tm,s.ob++[.row E sz false 1 (p.app [] news)]⟩ o.dst (.row s.ob.length 1)))
    |.row id ep=>match s.ob[id]? with
     |some (.row et sz' fz e xs)=>if e=ep/\et=E/\sz'=sz then
       .need (p.bnd xs news) (K (St.put ⟨s.tm,s.ob.set id (.row et sz' fz (e+1) (p.app xs news))⟩ o.dst (.row id (e+1))))else .stuck 6
     |_=>.stuck 7
    |.rowk id ep k=>match s.ob[id]? with
     |some (.row et sz' false e xs)=>if e=ep/\et=E/\sz'=sz then
       .need (p.bnd (p.cut xs 0 k) news) (K (St.put ⟨s.tm,s.ob.set id (.row et sz' false (e+1) (p.app (p.cut xs 0 k) news))⟩ o.dst (.row id (e+1))))else .stuck 8
     |_=>.stuck 9
    |_=>.stuck 10)else .stuck 11
   |none=>.stuck 12
  |_,_=>.stuck 13
 |.call { callee:=.value f,args,argTypes }=>match ev s f with
  |.val (.func (.func g) ca cb)=>if ca.size=0/\cb.size=0 then(match Qt4 p f s.ob (args.toList.map (ev s))with
   |some (vs,ob) =>
    let ρ:=Qfu ob 60 [] (vs.flatMap Qo3)
    if Q32 (ρ.map some)=true/\there ob ρ=true/\(QtW f=true\/argTypes.toList.any (QoV ty)=true\/ρ.isEmpty=true)then(match Qpp cs o g (vs.map (inA ob ρ)) (ρ.map fun i=>inO ob ρ (ob.getD i .gone))with
    |some (res,ob')=>if ρ.length<=ob'.length then .call g (vs.map (inA ob ρ)) (ρ.map fun i=>inO ob ρ (ob.getD i .gone)) res ob' (K (St.put ⟨s.tm,Q6h ob ρ ob'⟩ o.dst (Qoe ob ρ res)))else .stuck 61
    |none=>.stuck (1000+g))else .stuck 60
   |none=>.stuck 14)else .stuck 62
  |_=>.stuck 15
 |.range T x=>match ev s x with
  |.val (.string b)=>if(Q5 T ty).kd=6 then K (St.put ⟨s.tm,s.ob++[.iter b 0]⟩ o.dst (.iter s.ob.length))else .stuck 52
  |_=>.stuck 16
 |.next it true=>match ev s it with
  |.iter id=>match s.ob[id]? with
   |some (.iter b pos)=>.br (p.itmore b pos)
     (K (St.put ⟨s.tm,s.ob.set id (.iter b (p.itp b pos))⟩ o.dst (.tup [.kb true,.val (.int .i64 (p.toI pos)),.val (.int .i32 (p.itr b pos))])))
     (K (St.put s o.dst (.tup [.kb false])))
   |_=>.stuck 17
  |_=>.stuck 18
 |.binOp op T x y z=>match Qox s x y with
  |some xs=>if(Q5 T ty).kd=2 then(match op with
   |.eql=>.either (p.emp xs) (K (St.put s o.dst (.val (.bool true)))) (K (St.put s o.dst (.val (.bool false))))
   |.neq=>.either (p.emp xs) (K (St.put s o.dst (.val (.bool false)))) (K (St.put s o.dst (.val (.bool true))))
   |_=>.stuck 80)else .stuck 81
  |none=>match Qjo p s op x y with
   |some (sh,b)=>.ask T sh (K (St.put s o.dst (.val (.bool b))))
   |none=>Q3X p ty K o s (.binOp op T x y z)
 |.slice T x (some lo) hi m=>Q3X p ty K o (QoQ p s x) (.slice T x (some lo) hi m)
 |op=>Q3X p ty K o s op
inductive OT where
 |nil
 |cons (i:Nat) (r:OT)
 |fork (a b:OT)
def OT.of:List Nat->OT
 | []=>.nil
 |i::r=>.cons i (OT.of r)
def OT.or(t:OT)(n:Nat):OT:=match t with
 |.nil=>OT.of (List.range n)
 |t=>t
def Q5H(cs:Nat->List AV->List Ob->Option (AV×List Ob))(ops:List Oper)(K:St->Tree):OT->St->Tree
 |.nil,s=>K s
 |.fork a b,s=>.both (Q5H cs ops K a s) (Q5H cs ops K b s)
 |.cons i rest,s=>match ops[i]? with
  |none=>.stuck 30
  |some o=>match o.guard with
   |none=>aop p ty cs (Q5H cs ops K rest) o s
   |some (j,want)=>match(ops[j]?).bind (·.dst)with
    |none=>.stuck 31
    |some d=>match lk d s.tm with
     |.kb b=>match b,want with
      |true,true=>aop p ty cs (Q5H cs ops K rest) o s
      |false,false=>aop p ty cs (Q5H cs ops K rest) o s
      |_,_=>Q5H cs ops K rest (s.put o.dst (.tup []))
     |.val (.bool b)=>match want with
      |true=>.br b (aop p ty cs (Q5H cs ops K rest) o (s.put (some d) (.kb true))) (Q5H cs ops K rest ((s.put (some d) (.kb false)).put o.dst (.tup [])))
      |false=>.br b (Q5H cs ops K rest ((s.put (some d) (.kb true)).put o.dst (.tup []))) (aop p ty cs (Q5H cs ops K rest) o (s.put (some d) (.kb false)))
     |.tup []=>Q5H cs ops K rest (s.put o.dst (.tup []))
     |_=>.stuck 32
def Q4(cs:Nat->List AV->List Ob->Option (AV×List Ob))(ord:Nat->OT):Code->(Ex->St->Tree)->St->Tree
 |.skip,K,s=>K .normal s
 |.region id ops draw,K,s=>Q5H p ty cs ops.toList (K .normal) (if draw then(ord id).or ops.size else OT.of (List.range ops.size)) s
 |.seq a b,K,s=>Q4 cs ord a (fun e s=>match e with|.normal=>Q4 cs ord b K s|.exit i=>K (.exit i) s|.ret=>K .ret s) s
 |.cond c a b,K,s=>match c with
  |.tmp t=>match lk t s.tm with
   |.kb true=>Q4 cs ord a K s
   |.kb false=>Q4 cs ord b K s
   |.val (.bool x)=>.br x (Q4 cs ord a K (s.put (some t) (.kb true))) (Q4 cs ord b K (s.put (some t) (.kb false)))
   |_=>.stuck 40
  |.const (.bool true)=>Q4 cs ord a K s
  |.const (.bool false)=>Q4 cs ord b K s
  |_=>.stuck 41
 |.block id c,K,s=>Q4 cs ord c (fun e s=>match e with|.exit i=>if i=id then K .normal s else K (.exit i) s|.normal=>K .normal s|.ret=>K .ret s) s
 |.loop c,K,s=>.loop c s K
 |.exit i,K,s=>K (.exit i) s
 |.ret,K,s=>K .ret s
 |_,_,_=>.stuck 42
def Q9W(s:St):ResultVar->Option AV
 |.tmp t=>match lk t s.tm with|.kb b=>some (.val (.bool b))|.dead=>none|x=>some x
 |.cell t T=>match Q8d s (lk t s.tm)with
  |some cs=>if(Q5 T ty).ok=true/\(if(Q5 T ty).agg then(Q5 T ty).size else 1)<=cs.length then some (mk ty T cs)else none
  |none=>none
def Q68:List (Option AV)->Option (List AV)
 | []=>some []
 |some x::r=>(Q68 r).map (x :: ·)
 |none::_=>none
def Q86(keep:Bool)(rs:List ResultVar)(s:St):Option (AV×List Ob) :=
 match Q68 (rs.map (Q9W ty s))with
 |some [x]=>frz p keep 9 s.ob x
 |some xs=>(Q4r (frz p keep 9) s.ob xs).map fun(ys,ob)=>(.tup ys,ob)
 |none=>none
def Q53(keep:Bool)(rs:List ResultVar)(e:Ex)(s:St):Tree :=
 match e with
 |.exit _=>.stuck 70
 |_=>match Q86 p ty keep rs s with
  |some (r,ob)=>.leaf .ret ⟨[(0,r)],ob⟩
  |none=>.stuck 71
end
end
section
open Go.RowKit Go.Lib
def Q35:AV->UInt8
 |.val (.int _ n)=>UInt8.ofNat n.toNat
 |_=>0
def intOf:AV->Int
 |.val (.int _ n)=>n
 |_=>0
def Q5y:AV->Bool
 |.val (.bool b)=>b
 |_=>false
def Qb2:AV->ByteArray
 |.val (.string b)=>b
 |_=>⟨#[]⟩
def Q2x:AV->List AV
 |.slc _ xs=>xs
 |_=>[]
def QgN:AV->List AV
 |.ref cs=>cs
 |.opt x=>QgN x
 |_=>[]
def Q9k:AV->Bool
 |.val (.pointer none)=>true
 |.opt x=>Q9k x
 |_=>false
def Qma:AV->AV
 |.opt x=>x
 |x=>x
def Q56:AV->Prop
 |.val (.pointer none)=>True
 |.ref _=>True
 |.opt x=>Q56 x
 |_=>False
def Q3t:List DP->Prop
 | []=>True
 |q::r=>q.q/\Q3t r
def Qbo:AV->Bool
 |.val (.pointer none)=>true
 |.ref _=>true
 |.opt x=>Qbo x
 |_=>false
theorem Qb3(x:AV):Qbo x=true↔Q56 x:=by
 fun_induction Qbo x<;>simp_all [Q56]
def Qhn:AV->Bool
 |.val (.int .u8 n)=>decide (0<=n)&&decide (n<256)
 |_=>false
theorem QiD(x:AV):Qhn x=true↔∃n:UInt8,x=.val (.int .u8 n.toNat):=by
 constructor
 ·intro h
  unfold Qhn at h;split at h
  ·rename_i n
   simp only[Bool.and_eq_true,decide_eq_true_eq]at h;refine⟨UInt8.ofNat n.toNat,?_⟩
   have:(UInt8.ofNat n.toNat).toNat=n.toNat:=by
    rw[UInt8.toNat_ofNat'];omega
   rw[this];have:((n.toNat:Nat):Int)=n:=by omega
   rw[this]
  ·cases h
 ·rintro⟨n,rfl⟩
  have:=n.toNat_lt
  simp only[Qhn,Bool.and_eq_true,decide_eq_true_eq];omega
def QjV:AV->Bool
 |.val (.int .i32 _)=>true
 |_=>false
theorem QiU(x:AV):QjV x=true↔∃n:Int,x=.val (.int .i32 n):=by
 constructor
 ·intro h
  unfold QjV at h;split at h
  ·exact⟨_,rfl⟩
  ·cases h
 ·rintro⟨n,rfl⟩;rfl
theorem Qhe{f:AV->Bool}{g:AV->Prop}(h:∀x,f x=true↔g x)(xs:List AV):xs.all f=true↔∀x∈xs,g x:=by
 rw[List.all_eq_true];exact forall_congr' fun x=>imp_congr_right fun _=>h x
def Qmw(k:IntKind):AV->Bool
 |.val (.int k' _)=>decide (k'=k)
 |_=>false
theorem QlF(k:IntKind)(x:AV):Qmw k x=true↔x=.val (.int k (intOf x)):=by
 constructor
 ·intro h
  unfold Qmw at h;split at h
  ·have h:=of_decide_eq_true h
   rw[h];rfl
  ·cases h
 ·intro h;rw[h];simp[Qmw]
def Qog:AV->Bool
 |.val (.bool _)=>true
 |_=>false
theorem Qlt(x:AV):Qog x=true↔x=.val (.bool (Q5y x)):=by
 constructor
 ·intro h
  unfold Qog at h;split at h
  ·rfl
  ·cases h
 ·intro h;rw[h];rfl
def Qot:AV->Bool
 |.val (.string _)=>true
 |_=>false
theorem QkT(x:AV):Qot x=true↔x=.val (.string (Qb2 x)):=by
 constructor
 ·intro h
  unfold Qot at h;split at h
  ·rfl
  ·cases h
 ·intro h;rw[h];rfl
def QnF(sz:Nat):AV->Bool
 |.slc sz' _=>sz' == sz
 |.val (.slice none l c)=>l == 0&&c == 0
 |_=>false
theorem QjB(sz:Nat)(x:AV):QnF sz x=true↔x=.slc sz (Q2x x)\/x=.val (.slice none 0 0):=by
 constructor
 ·intro h
  unfold QnF at h;split at h
  ·have h:=eq_of_beq h
   rw[h];exact .inl rfl
  ·simp only[Bool.and_eq_true,beq_iff_eq]at h
   rw[h.1,h.2];exact .inr rfl
  ·cases h
 ·rintro(h|rfl)
  ·rw[h];simp[QnF]
  ·rfl
theorem QeB:∀l:List DP,l.all DP.b=true↔Q3t l
 | []=>by simp[Q3t]
 |x::r=>by
  rw[List.all_cons,Bool.and_eq_true,x.h,QeB r];rfl
def Q6d(op:BinOp)(k:IntKind)(x y:Int):Int:=match op with
 |.and=>k.wrap (BitVec.ofInt k.bits x &&& BitVec.ofInt k.bits y).toNat
 |.or=>k.wrap (BitVec.ofInt k.bits x ||| BitVec.ofInt k.bits y).toNat
 |.xor=>k.wrap (BitVec.ofInt k.bits x ^^^ BitVec.ofInt k.bits y).toNat
 |_=>k.wrap (BitVec.ofInt k.bits x &&& ~~~ BitVec.ofInt k.bits y).toNat
def Qjb(k:IntKind)(x n:Int):Int:=k.wrap (x * 2 ^ min n.toNat k.bits)
def Qpx(x n:Int):Int:=x.fdiv (2 ^ n.toNat)
def Qti(x:AV)(off:Nat)(new:List AV):AV:=match x with
 |.agg cs=>.agg (setCells cs off new)
 |_=>new.headD .dead
def Qr8(xs:List AV)(i off:Nat)(new:List AV):List AV:=xs.set i (Qti (xs.getD i .dead) off new)
def std:Pr where
 eqI a b:=a == b
 ltI a b:=decide (a<b)
 leI a b:=decide (a<=b)
 add a b:=a+b
 sub a b:=a-b
 mul a b:=a * b
 quo a b:=a.tdiv b
 rem a b:=a.tmod b
 inR k n:=⟨k.min<=n/\n<=k.max,decide (k.min<=n)&&decide (n<=k.max),by simp⟩
 nz n:=⟨n≠0,decide (n≠0),by simp⟩
 wrap k n:=k.wrap n
 minI a b:=if b<a then b else a
 maxI a b:=if a<b then b else a
 notB b:=!b
 eqB a b:=a == b
 andB a b:=a&&b
 bits:=Q6d
 shl:=Qjb
 shr:=Qpx
 nn n:=⟨0<=n,decide (0<=n),by simp⟩
 emp xs:=⟨xs=[],xs.isEmpty,by simp⟩
 eqS a b:=a.toList == b.toList
 catS a b:=a++b
 catok a b:=⟨((a.size+b.size:Nat):Int)<=IntKind.i64.max,decide (((a.size+b.size:Nat):Int)<=IntKind.i64.max),by simp⟩
 szS b:=b.size
 idxS b k:=(b.data.getD k.toNat 0).toNat
 cutS b l h:=b.extract l.toNat h.toNat
 bytesS b:=b.data.toList.map fun x=>.val (.int .u8 x.toNat)
 strB xs:=⟨(xs.map Q35).toArray⟩
 isB xs:=⟨∀x∈xs,∃n:UInt8,x=.val (.int .u8 n.toNat),xs.all Qhn,Qhe QiD xs⟩
 encS n:=Utf8.encode n
 strR xs:=runesBytes (xs.map intOf)
 isR xs:=⟨∀x∈xs,∃n:Int,x=.val (.int .i32 n),xs.all QjV,Qhe QiU xs⟩
 len xs:=xs.length
 at_ xs k:=xs.getD k.toNat .dead
 inb k n:=⟨0<=k/\k<n,decide (0<=k)&&decide (k<n),by simp⟩
 cut xs l h:=(xs.drop l.toNat).take (h-l).toNat
 cutok l h n:=⟨0<=l/\l<=h/\h<=n,decide (0<=l)&&(decide (l<=h)&&decide (h<=n)),by simp⟩
 app xs ys:=xs++ys
 bnd xs ys:=⟨xs.length+ys.length<=1000000000,decide (xs.length+ys.length<=1000000000),by simp⟩
 more xs:=⟨xs≠[],!xs.isEmpty,by simp⟩
 itmore s pos:=decide (pos<s.size)
 itr s pos:=((Utf8.decode s pos).1:Int)
 itp s pos:=pos+(Utf8.decode s pos).2
 toI n:=(n:Int)
 szok b:=⟨b.size<=1000000000,decide (b.size<=1000000000),by simp⟩
 nth cs j:=cs.getD j .dead
 cel x:=x.cells
 drp cs n:=cs.drop n
 int x:=intOf x
 boo x:=Q5y x
 str x:=Qb2 x
 lst x:=Q2x x
 prf x:=QgN x
 isN x:=Q9k x
 uno x:=Qma x
 hasI k x:=⟨x=.val (.int k (intOf x)),Qmw k x,QlF k x⟩
 hasB x:=⟨x=.val (.bool (Q5y x)),Qog x,Qlt x⟩
 hasS x:=⟨x=.val (.string (Qb2 x)),Qot x,QkT x⟩
 hasL sz x:=⟨x=.slc sz (Q2x x)\/x=.val (.slice none 0 0),QnF sz x,QjB sz x⟩
 hasP x:=⟨Q56 x,Qbo x,Qb3 x⟩
 hasR x:=⟨Q56 x/\Q9k x=false,Qbo x&&!Q9k x,by rw[Bool.and_eq_true,Qb3];simp⟩
 all l:=⟨Q3t l,l.all DP.b,QeB l⟩
 setx xs i off new:=Qr8 xs i.toNat off new
abbrev QQ(xs:List AV):List AV:=xs.flatMap AV.cells
inductive PRel (w:World) (A:Nat->Nat->Prop):Value->AV->Prop
 |val (v:Value) (h:v.oneCell'=true):PRel w A v (.val v)
 |nil (sz:Nat):PRel w A (.slice none 0 0) (.slc sz [])
 |slc (b o c sz:Nat) (xs:List AV) (f:Nat->Value) (hc:xs.length<=c) (hm:c<=maxLen) (hw:∀x∈xs,x.cells.length=sz)
   (hcell:∀j u,(QQ xs)[j]?=some u->A b (o+j)/\w.cell? ⟨b,o+j,none⟩=some (f j))
   (hrel:∀j u,(QQ xs)[j]?=some u->PRel w A (f j) u):PRel w A (.slice (some ⟨b,o,none⟩) xs.length c) (.slc sz xs)
 |ref (b o:Nat) (cs:List AV) (f:Nat->Value) (hcell:∀j u,cs[j]?=some u->A b (o+j)/\w.cell? ⟨b,o+j,none⟩=some (f j))
   (hrel:∀j u,cs[j]?=some u->PRel w A (f j) u):PRel w A (.pointer (some ⟨b,o,none⟩)) (.ref cs)
 |opt (v:Value) (x:AV) (h:PRel w A v x) (hp:Q56 x):PRel w A v (.opt x)
theorem PRel.keep{w w':World}{A A':Nat->Nat->Prop}(hA:∀b o,A b o->A' b o/\w'.cell? ⟨b,o,none⟩=w.cell? ⟨b,o,none⟩){v:Value}{x:AV}(h:PRel w A v x):PRel w' A' v x:=by
 induction h with
 |val v h=>exact .val v h
 |nil sz=>exact .nil sz
 |slc b o c sz xs f hc hm hw hcell hrel ih =>
  exact .slc b o c sz xs f hc hm hw (fun j u h=>⟨(hA _ _ (hcell j u h).1).1,by rw[(hA _ _ (hcell j u h).1).2];exact(hcell j u h).2⟩) ih
 |ref b o cs f hcell hrel ih =>
  exact .ref b o cs f (fun j u h=>⟨(hA _ _ (hcell j u h).1).1,by rw[(hA _ _ (hcell j u h).1).2];exact(hcell j u h).2⟩) ih
 |opt v x h hp ih=>exact .opt v x ih hp
theorem PRel.one{w:World}{A:Nat->Nat->Prop}{v:Value}{x:AV}(h:PRel w A v x):v.oneCell'=true:=by
 induction h with
 |opt v x h hp ih=>exact ih
 |_=>first|assumption|rfl
structure Gh where
 A:Nat->Nat->Prop
 G:Nat->Option Nat
 loc:Nat->Nat
 sub:Nat->Bool
def Alike(w:World)(A:Nat->Nat->Prop)(ys:List Value)(us:List AV):Prop:=ys.length=us.length/\∀(j:Nat) y u,ys[j]?=some y->us[j]?=some u->PRel w A y u
theorem Alike.keep{w w':World}{A A':Nat->Nat->Prop}(hA:∀b o,A b o->A' b o/\w'.cell? ⟨b,o,none⟩=w.cell? ⟨b,o,none⟩){ys us}(h:Alike w A ys us):Alike w' A' ys us :=
 ⟨h.1,fun j y u h1 h2=>(h.2 j y u h1 h2).keep hA⟩
theorem Alike.one{w:World}{A:Nat->Nat->Prop}{ys us}(h:Alike w A ys us):∀y∈ys,y.oneCell'=true:=fun y hy=>by
 obtain⟨j,hj,rfl⟩:=List.mem_iff_getElem.1 hy;have h2:j<us.length:=h.1 ▸ hj;exact(h.2 j _ _ (getElem?_eq_getElem hj) (getElem?_eq_getElem h2)).one
theorem Alike.append{w:World}{A:Nat->Nat->Prop}{ys us ys' us'}(h:Alike w A ys us)(h':Alike w A ys' us'):Alike w A (ys++ys') (us++us'):=by
 refine⟨by simp[h.1,h'.1],fun j y u h1 h2=>?_⟩
 by_cases hj:j<ys.length
 ·rw[getElem?_append_left hj]at h1
  rw[getElem?_append_left (h.1 ▸ hj)]at h2;exact h.2 j y u h1 h2
 ·rw[getElem?_append_right (by omega)]at h1
  rw[getElem?_append_right (by have:=h.1;omega),<-h.1]at h2
  exact h'.2 _ y u h1 h2
theorem Alike.take{w:World}{A:Nat->Nat->Prop}{ys us}(h:Alike w A ys us)(n:Nat):Alike w A (ys.take n) (us.take n):=by
 refine⟨by simp[h.1],fun j y u h1 h2=>?_⟩
 rw[List.getElem?_take]at h1 h2;split at h1<;>simp_all
 exact h.2 j y u h1 h2
theorem Alike.drop{w:World}{A:Nat->Nat->Prop}{ys us}(h:Alike w A ys us)(n:Nat):Alike w A (ys.drop n) (us.drop n):=by
 refine⟨by simp[h.1],fun j y u h1 h2=>?_⟩
 rw[getElem?_drop]at h1 h2;exact h.2 _ y u h1 h2
theorem Alike.nil{w:World}{A:Nat->Nat->Prop}:Alike w A [] []:=⟨rfl,fun j y u h=>by simp at h⟩
def KidV(w:World)(g:Gh)(id:Nat)(y:Value):Prop :=
 ∃k zs,w.ownsRow 0 Qiz 1 y k zs/\∀b,y.ownBlock=some b->g.G b=some id/\g.sub b=true/\∀o,k<=o->¬g.A b o
def SubOk(w:World)(g:Gh)(id et sz:Nat)(v:Value)(ys:List Value):Prop :=
 (∀b,v.ownBlock=some b->g.sub b=false) /\
 (et=Q5U->∀(j:Nat) y,ys[j]?=some y->j % sz=1->KidV w g id y/\∀(i:Nat) z b,ys[i]?=some z->i % sz=1->z.ownBlock=some b->y.ownBlock=some b->i=j)
def RowV(w:World)(g:Gh)(id et sz:Nat)(v:Value)(xs:List AV):Prop :=
 ∃ys,w.ownsRow 0 et sz v xs.length ys/\(∀b,v.ownBlock=some b->g.G b=some id)/\Alike w g.A ys (QQ xs)/\(∀x∈xs,x.cells.length=sz)/\SubOk w g id et sz v ys
def Q7m:Option Ob->Prop
 |some (.box _)|some (.fbox _)=>True
 |_=>False
def Qbp:Option Ob->Prop
 |some (.iter _ _)=>True
 |_=>False
def ARel0(w:World)(g:Gh)(ob:List Ob)(v:Value):AV->Prop
 |.box id off=>v=.pointer (some ⟨g.loc id,off,none⟩)/\Q7m ob[id]?
 |.row id ep=>v.oneCell'=true/\∃et sz fz e xs,ob[id]?=some (.row et sz fz e xs)/\ep<=e/\(e=ep->RowV w g id et sz v xs)
 |.rowk id ep k=>v.oneCell'=true/\∃et sz fz e xs,ob[id]?=some (.row et sz fz e xs)/\ep<=e/\(e=ep->0<=k/\k<=xs.length/\RowV w g id et sz v (xs.take k.toNat))
 |.rptr id ep i off=>v.oneCell'=true/\∃et sz fz e xs,ob[id]?=some (.row et sz fz e xs)/\ep<=e /\
   (e=ep->∃b c,v=.pointer (some ⟨b,i.toNat * sz+off,none⟩)/\0<=i/\i<xs.length/\RowV w g id et sz (.slice (some ⟨b,0,none⟩) xs.length c) xs)
 |.kb t=>v=.bool t
 |.iter id=>v=.pointer (some ⟨g.loc id,0,none⟩)/\Qbp ob[id]?
 |.dead=>True
 |.agg _=>False
 |.tup _=>False
 |x=>PRel w g.A v x
def ARelC(w:World)(g:Gh)(ob:List Ob)(vs:List Value)(cs:List AV):Prop :=
 vs.length=cs.length/\∀(j:Nat) y u,vs[j]?=some y->cs[j]?=some u->ARel0 w g ob y u/\y.oneCell'=true
def ARel1(w:World)(g:Gh)(ob:List Ob)(v:Value):AV->Prop
 |.agg cs=>∃vs:Array Value,v=.agg vs/\ARelC w g ob vs.toList cs
 |x=>ARel0 w g ob v x
def ARel(w:World)(g:Gh)(ob:List Ob)(v:Value):AV->Prop
 |.tup xs=>∃vs:Array Value,v=.tuple vs/\vs.size=xs.length/\∀(j:Nat) y u,vs[j]?=some y->xs[j]?=some u->ARel1 w g ob y u
 |x=>ARel1 w g ob v x
structure Mem (w:World) (g:Gh) (ob:List Ob):Prop where
 box:∀(id:Nat) cs,ob[id]?=some (.box cs)->g.G (g.loc id)=some id/\∃cur T,w.heap[g.loc id]?=some (.cells cur T (0,0))/\ARelC w g ob cur.toList cs
 fbox:∀(id:Nat) cs,ob[id]?=some (.fbox cs)->∀(j:Nat) u,cs[j]?=some u->g.A (g.loc id) j/\∃y,w.cell? ⟨g.loc id,j,none⟩=some y/\PRel w g.A y u
 iter:∀(id:Nat) s pos,ob[id]?=some (.iter s pos)->g.G (g.loc id)=some id/\w.heap[g.loc id]?=some (.stringIter s pos)
 own:∀b id,g.G b=some id->b<w.heap.size/\id<ob.length
 imm:∀b o,g.A b o->b<w.heap.size/\∀id,g.G b=some id->g.sub b=false->∃et sz e xs,ob[id]?=some (.row et sz true e xs)/\o<xs.length * sz
 roww:∀(id:Nat) et sz fz e xs,ob[id]?=some (.row et sz fz e xs)->0<sz/\∀x∈xs,x.cells.length=sz
 nsub:∀b,g.sub b=true->∃id et sz fz e xs,g.G b=some id/\ob[id]?=some (.row et sz fz e xs)
 uniq:∀b b' id,g.G b=some id->g.G b'=some id->g.sub b=false->g.sub b'=false->b=b'
def Qq1(ob ob':List Ob)(id:Nat):Prop:=∃et sz fz fz' e xs xs',ob[id]?=some (.row et sz fz e xs)/\ob'[id]?=some (.row et sz fz' e xs')
theorem Q30{sz:Nat}:∀(xs:List AV),(∀x∈xs,x.cells.length=sz)->(QQ xs).length=xs.length * sz
 | [],_=>by simp[QQ]
 |y::r,hw=>by
  rw[QQ,flatMap_cons,List.length_append,hw _ mem_cons_self,List.length_cons,succ_mul];have:=Q30 r (fun x h=>hw x (mem_cons_of_mem _ h))
  unfold QQ at this;omega
theorem Qi4{sz:Nat}{xs:List AV}(hw:∀x∈xs,x.cells.length=sz){k:Nat}(hk:k<=xs.length):QQ (xs.take k)=(QQ xs).take (k * sz):=by
 have h1:(QQ (xs.take k)).length=k * sz:=by
  rw[Q30 _ (fun x hx=>hw x (mem_of_mem_take hx)),length_take,min_eq_left (by omega)]
 have e:QQ xs=QQ (xs.take k)++QQ (xs.drop k):=by rw[<-List.flatMap_append,List.take_append_drop]
 rw[e];exact((List.take_append_of_le_length (l₂:=QQ (xs.drop k)) (Nat.le_of_eq h1.symm)).trans (List.take_of_length_le (Nat.le_of_eq h1))).symm
def Qtm(w w':World)(A':Nat->Nat->Prop)(et sz b:Nat)(xs':List AV):Prop :=
 ∃cur cur',w.heap[b]?=some (.cells cur et (0,0))/\w'.heap[b]?=some (.cells cur' et (0,0))/\cur'.size=cur.size/\Alike w' A' (cur'.toList.take (xs'.length * sz)) (QQ xs')
def RowKeep(w:World)(g:Gh)(w':World)(g':Gh)(id et sz:Nat)(xs xs':List AV):Prop :=
 (xs'=xs/\∀b,g.G b=some id->g'.G b=some id/\w'.heap[b]?=w.heap[b]?) \/
 (et≠Q5U/\xs'.length=xs.length/\(∀x∈xs',x.cells.length=sz)/\∀b,g.G b=some id->g'.G b=some id/\(g.sub b=false->Qtm w w' g'.A et sz b xs'))
theorem RowKeep.G{w w':World}{g g':Gh}{id et sz:Nat}{xs xs':List AV}(h:RowKeep w g w' g' id et sz xs xs'){b:Nat}(hb:g.G b=some id):g'.G b=some id:=by
 rcases h with h|h
 ·exact(h.2 b hb).1
 ·exact(h.2.2.2 b hb).1
theorem RowKeep.len{w w':World}{g g':Gh}{id et sz:Nat}{xs xs':List AV}(h:RowKeep w g w' g' id et sz xs xs'):xs'.length=xs.length:=by
 rcases h with h|h
 ·rw[h.1]
 ·exact h.2.1
theorem RowKeep.trans{w1 w2 w3:World}{g1 g2 g3:Gh}{id et sz:Nat}{xs1 xs2 xs3:List AV}(h:RowKeep w1 g1 w2 g2 id et sz xs1 xs2)(k:RowKeep w2 g2 w3 g3 id et sz xs2 xs3)
  (hA:∀b o,g2.A b o->g3.A b o/\w3.cell? ⟨b,o,none⟩=w2.cell? ⟨b,o,none⟩) (hs:∀b,g1.G b=some id->g2.sub b=g1.sub b):RowKeep w1 g1 w3 g3 id et sz xs1 xs3:=by
 rcases h with ⟨rfl,h⟩|⟨h1,h2,h3,h4⟩
 ·rcases k with ⟨rfl,k⟩|⟨k1,k2,k3,k4⟩
  ·exact .inl ⟨rfl,fun b hG=>⟨(k b (h b hG).1).1,(k b (h b hG).1).2.trans (h b hG).2⟩⟩
  ·refine .inr ⟨k1,k2,k3,fun b hG=>⟨(k4 b (h b hG).1).1,fun hb=>?_⟩⟩
   obtain⟨cur,cur',e1,e2,e3,e4⟩:=(k4 b (h b hG).1).2 ((hs b hG).trans hb);exact⟨cur,cur',by rw[<-(h b hG).2];exact e1,e2,e3,e4⟩
 ·rcases k with ⟨rfl,k⟩|⟨k1,k2,k3,k4⟩
  ·refine .inr ⟨h1,h2,h3,fun b hG=>⟨(k b (h4 b hG).1).1,fun hb=>?_⟩⟩
   obtain⟨cur,cur',e1,e2,e3,e4⟩:=(h4 b hG).2 hb;exact⟨cur,cur',e1,by rw[(k b (h4 b hG).1).2];exact e2,e3,e4.keep hA⟩
  ·refine .inr ⟨h1,k2.trans h2,k3,fun b hG=>⟨(k4 b (h4 b hG).1).1,fun hb=>?_⟩⟩
   obtain⟨cur,cur',e1,e2,e3,e4⟩:=(h4 b hG).2 hb;obtain⟨cur2,cur3,f1,f2,f3,f4⟩:=(k4 b (h4 b hG).1).2 ((hs b hG).trans hb);rw[e2]at f1;obtain rfl:cur'=cur2:=by simpa using f1
   exact⟨cur,cur3,e1,f2,f3.trans e3,f4⟩
theorem RowKeep.turn{w w':World}{g g' k k':Gh}{id j et sz:Nat}{xs xs':List AV}(h:RowKeep w g w' g' j et sz xs xs')(h1:∀b,k.G b=some id->g.G b=some j/\g.sub b=k.sub b)
  (h2:∀b,k.G b=some id->g'.G b=some j->k'.G b=some id) (hA:g'.A=k'.A):RowKeep w k w' k' id et sz xs xs':=by
 rcases h with ⟨rfl,h⟩|⟨e1,e2,e3,h⟩
 ·exact .inl ⟨rfl,fun b hG=>⟨h2 b hG (h b (h1 b hG).1).1,(h b (h1 b hG).1).2⟩⟩
 ·exact .inr ⟨e1,e2,e3,fun b hG=>⟨h2 b hG (h b (h1 b hG).1).1,fun hb=>hA ▸ (h b (h1 b hG).1).2 ((h1 b hG).2.trans hb)⟩⟩
structure Ext (w:World) (g:Gh) (ob:List Ob) (w':World) (g':Gh) (ob':List Ob):Prop where
 A:∀b o,g.A b o->g'.A b o/\w'.cell? ⟨b,o,none⟩=w.cell? ⟨b,o,none⟩
 loc:∀id,id<ob.length->g'.loc id=g.loc id
 isb:∀id:Nat,Q7m ob[id]?->Q7m ob'[id]?
 isi:∀id:Nat,Qbp ob[id]?->Qbp ob'[id]?
 row:∀(id:Nat) et sz fz e xs,ob[id]?=some (.row et sz fz e xs)->∃fz' e' xs',ob'[id]?=some (.row et sz fz' e' xs')/\e<=e' /\
  (e'=e->RowKeep w g w' g' id et sz xs xs')
 sub:∀b id,g.G b=some id->Qq1 ob ob' id->g'.sub b=g.sub b/\(g.sub b=true->∀o,g'.A b o->g.A b o)
theorem Qa{α:Type}{l:List α}{i:Nat}{x:α}(h:l[i]?=some x):i<l.length:=(List.getElem?_eq_some_iff.1 h).1
theorem Q4o{ob:List Ob}{id:Nat}(h:Q7m ob[id]?):id<ob.length:=by
 by_cases hl:id<ob.length
 ·exact hl
 ·rw[List.getElem?_eq_none (by omega)]at h;exact h.elim
theorem Q5g{ob:List Ob}{id:Nat}(h:Qbp ob[id]?):id<ob.length:=by
 by_cases hl:id<ob.length
 ·exact hl
 ·rw[List.getElem?_eq_none (by omega)]at h;exact h.elim
section
variable {w w' w'':World}{g g' g'':Gh}{ob ob' ob'':List Ob}
theorem Q3A{et sz n:Nat}{v:Value}{ys:List Value}(h:w.ownsRow 0 et sz v n ys)(hb:∀b,v.ownBlock=some b->w'.heap[b]?=w.heap[b]?):w'.ownsRow 0 et sz v n ys:=by
 obtain⟨h1,h2⟩:=h;refine⟨h1,?_⟩;rcases h2 with h2|⟨b,cap,cur,rfl,h3,h4,h5⟩
 ·exact .inl h2
 ·refine .inr ⟨b,cap,cur,rfl,h3,?_,h5⟩
  rw[hb b rfl];exact h4
theorem SubOk.ext{id id' et sz:Nat}{v:Value}{ys:List Value}(h:SubOk w g id et sz v ys)(hv:∀b,v.ownBlock=some b->g.G b=some id)
  (hb:∀b,g.G b=some id->g'.G b=some id'/\g'.sub b=g.sub b/\(g.sub b=true->w'.heap[b]?=w.heap[b]?/\∀o,g'.A b o->g.A b o)):SubOk w' g' id' et sz v ys:=by
 refine⟨fun b h1=>by rw[(hb b (hv b h1)).2.1];exact h.1 b h1,fun he j y hy hj=>?_⟩
 obtain⟨⟨k,zs,h1,h2⟩,h3⟩:=h.2 he j y hy hj;refine⟨⟨k,zs,Q3A h1 fun b h4=>((hb b (h2 b h4).1).2.2 (h2 b h4).2.1).1,fun b h4=>?_⟩,h3⟩
 obtain⟨h5,h6,h7⟩:=h2 b h4;obtain⟨h8,h9,qh⟩:=hb b h5;exact⟨h8,h9.trans h6,fun o ho hA=>h7 o ho ((qh h6).2 o hA)⟩
theorem RowV.ext{id et sz:Nat}{v:Value}{xs:List AV}(h:RowV w g id et sz v xs)(hA:∀b o,g.A b o->g'.A b o/\w'.cell? ⟨b,o,none⟩=w.cell? ⟨b,o,none⟩)
  (hb:∀b,g.G b=some id->g'.G b=some id/\w'.heap[b]?=w.heap[b]?/\g'.sub b=g.sub b/\(g.sub b=true->∀o,g'.A b o->g.A b o)):RowV w' g' id et sz v xs:=by
 obtain⟨ys,ho,hG,jX,hw,hs⟩:=h;exact⟨ys,Q3A ho fun b h=>(hb b (hG b h)).2.1,fun b h=>(hb b (hG b h)).1,jX.keep hA,hw,hs.ext hG fun b h=>⟨(hb b h).1,(hb b h).2.2.1,fun h1=>⟨(hb b h).2.1,(hb b h).2.2.2 h1⟩⟩⟩
theorem Ext.rowv(E:Ext w g ob w' g' ob'){id et sz e:Nat}{fz:Bool}{xs:List AV}(h1:ob[id]?=some (.row et sz fz e xs)):∃fz' e' xs',ob'[id]?=some (.row et sz fz' e' xs')/\e<=e' /\
  (e'=e->xs'.length=xs.length/\∀v k,RowV w g id et sz v (xs.take k)->RowV w' g' id et sz v (xs'.take k)):=by
 obtain⟨fz',e',xs',h2,h3,h4⟩:=E.row _ _ _ _ _ _ h1;refine⟨fz',e',xs',h2,h3,fun he=>⟨(h4 he).len,fun v k h=>?_⟩⟩
 subst he;have vK:=fun b hb=>E.sub b id hb ⟨_,_,_,_,_,_,_,h1,h2⟩
 rcases h4 rfl with ⟨rfl,h5⟩|⟨h5,h6,h7,h8⟩
 ·exact h.ext E.A fun b hb=>⟨(h5 b hb).1,(h5 b hb).2,(vK b hb).1,(vK b hb).2⟩
 ·obtain⟨ys,⟨h9,ho⟩,hG,jX,hw,hs⟩:=h
  have jE:(xs'.take k).length=(xs.take k).length:=by rw[length_take,length_take,h6]
  have kV:∀x∈xs'.take k,x.cells.length=sz:=fun x hx=>h7 x (mem_of_mem_take hx)
  have jf:∀ys',SubOk w' g' id et sz v ys':=fun ys'=>⟨fun b hb=>by rw[(vK b (hG b hb)).1];exact hs.1 b hb,fun he=>absurd he h5⟩
  rcases ho with ⟨rfl,h0⟩|⟨b,cap,cur,rfl,qh,yF,gy,kW,ci,pW⟩
  ·have hx:xs'.take k=[]:=List.eq_nil_of_length_eq_zero (jE.trans h0)
   rw[hx];exact⟨[],World.ownsRow_nil _ _ _ _,fun b hb=>(by cases hb),Alike.nil,(fun x hx=>by cases hx),jf []⟩
  ·have qe:=hG b rfl
   obtain⟨cur1,cur',e1,e2,e3,e4⟩:=(h8 b qe).2 (hs.1 b rfl);rw[yF]at e1;obtain rfl:cur=cur1:=by simpa using e1
   have hk:(xs'.take k).length<=xs'.length:=by rw[length_take];omega
   have vL:QQ (xs'.take k)=(QQ xs').take ((xs'.take k).length * sz):=by
    have h1:=Q30 xs' h7;rw[length_take];rcases Nat.le_total k xs'.length with jU|jU
    ·rw[min_eq_left jU,Qi4 h7 jU]
    ·rw[Nat.min_eq_right jU,List.take_of_length_le jU,List.take_of_length_le (by omega)]
   have jJ:(xs'.take k).length * sz<=xs'.length * sz:=Nat.mul_le_mul_right _ hk;refine⟨cur'.toList.take ((xs'.take k).length * sz),⟨?_,.inr ⟨b,cap,cur',by rw[jE],qh,e2,by rw[jE];exact gy,kW,by rw[e3];exact ci,rfl⟩⟩,fun b' zf=>?_,?_,kV,jf _⟩
   ·have z6:cur'.toList.length=cap * sz:=by rw[Array.length_toList,e3,ci]
    have:(xs'.take k).length * sz<=cap * sz:=Nat.mul_le_mul_right _ (by rw[jE];exact gy)
    rw[length_take,z6];omega
   ·obtain rfl:b=b':=by simpa[Value.ownBlock]using zf
    exact(h8 b qe).1
   ·have:=e4.take ((xs'.take k).length * sz)
    rw[List.take_take,min_eq_left jJ]at this;rw[vL];exact this
theorem Mem.nosub(M:Mem w g ob){b id:Nat}(hG:g.G b=some id)(h:∀et sz fz e xs,ob[id]?≠some (.row et sz fz e xs)):g.sub b=false:=by
 cases hs:g.sub b with
 |false=>rfl
 |true =>
  obtain⟨id',et,sz,fz,e,xs,h1,h2⟩:=M.nsub b hs;rw[hG]at h1;obtain rfl:id=id':=by simpa using h1
  exact absurd h2 (h _ _ _ _ _)
theorem ARel0.ext(E:Ext w g ob w' g' ob'){v:Value}{x:AV}(h:ARel0 w g ob v x):ARel0 w' g' ob' v x:=by
 cases x with
 |box id off=>exact⟨by rw[E.loc id (Q4o h.2)];exact h.1,E.isb _ h.2⟩
 |row id ep =>
  obtain⟨h0,et,sz,fz,e,xs,h1,h2,h3⟩:=h;obtain⟨fz',e',xs',h4,h5,h6⟩:=E.rowv h1;refine⟨h0,et,sz,fz',e',xs',h4,by omega,fun he=>?_⟩
  have qq:e'=e:=by omega
  obtain⟨h7,h8⟩:=h6 qq;have h9:=h3 (by omega)
  rw[<-take_length (l:=xs)]at h9;have:=h8 v _ h9
  rwa [<-h7,take_length]at this
 |rowk id ep k =>
  obtain⟨h0,et,sz,fz,e,xs,h1,h2,h3⟩:=h;obtain⟨fz',e',xs',h4,h5,h6⟩:=E.rowv h1;refine⟨h0,et,sz,fz',e',xs',h4,by omega,fun he=>?_⟩
  have qq:e'=e:=by omega
  obtain⟨h7,yF⟩:=h6 qq;obtain⟨h8,h9,qh⟩:=h3 (by omega)
  exact⟨h8,by omega,yF _ _ qh⟩
 |rptr id ep i off =>
  obtain⟨h0,et,sz,fz,e,xs,h1,h2,h3⟩:=h;obtain⟨fz',e',xs',h4,h5,h6⟩:=E.rowv h1;refine⟨h0,et,sz,fz',e',xs',h4,by omega,fun he=>?_⟩
  have qq:e'=e:=by omega
  obtain⟨h7,gy⟩:=h6 qq;obtain⟨b,c,h8,h9,qh,yF⟩:=h3 (by omega)
  have kW:=gy (.slice (some ⟨b,0,none⟩) xs.length c) xs.length (by rw[take_length];exact yF)
  rw[<-h7,take_length]at kW;exact⟨b,c,h8,h9,by omega,kW⟩
 |kb t=>exact h
 |iter id=>exact⟨by rw[E.loc id (Q5g h.2)];exact h.1,E.isi _ h.2⟩
 |dead=>trivial
 |agg _=>exact h
 |tup _=>exact h
 |val _=>exact PRel.keep E.A h
 |slc _ _=>exact PRel.keep E.A h
 |ref _=>exact PRel.keep E.A h
 |opt _=>exact PRel.keep E.A h
theorem ARelC.ext(E:Ext w g ob w' g' ob'){vs:List Value}{cs:List AV}(h:ARelC w g ob vs cs):ARelC w' g' ob' vs cs :=
 ⟨h.1,fun j y u h1 h2=>⟨(h.2 j y u h1 h2).1.ext E,(h.2 j y u h1 h2).2⟩⟩
theorem ARel1.ext(E:Ext w g ob w' g' ob'){v:Value}{x:AV}(h:ARel1 w g ob v x):ARel1 w' g' ob' v x:=by
 cases x with
 |agg cs=>obtain⟨vs,rfl,h⟩:=h;exact⟨vs,rfl,h.ext E⟩
 |val a=>exact ARel0.ext (x:=.val a) E h
 |slc a b=>exact ARel0.ext (x:=.slc a b) E h
 |ref a=>exact ARel0.ext (x:=.ref a) E h
 |opt a=>exact ARel0.ext (x:=.opt a) E h
 |tup a=>exact(show False from h).elim
 |box a b=>exact ARel0.ext (x:=.box a b) E h
 |row a b=>exact ARel0.ext (x:=.row a b) E h
 |rowk a b c=>exact ARel0.ext (x:=.rowk a b c) E h
 |rptr a b c d=>exact ARel0.ext (x:=.rptr a b c d) E h
 |kb a=>exact ARel0.ext (x:=.kb a) E h
 |iter a=>exact ARel0.ext (x:=.iter a) E h
 |dead=>trivial
theorem ARel.ext(E:Ext w g ob w' g' ob'){v:Value}{x:AV}(h:ARel w g ob v x):ARel w' g' ob' v x:=by
 cases x with
 |tup a=>obtain⟨vs,rfl,h1,h2⟩:=h;exact⟨vs,rfl,h1,fun j y u h3 h4=>(h2 j y u h3 h4).ext E⟩
 |val a=>exact ARel1.ext (x:=.val a) E h
 |slc a b=>exact ARel1.ext (x:=.slc a b) E h
 |ref a=>exact ARel1.ext (x:=.ref a) E h
 |opt a=>exact ARel1.ext (x:=.opt a) E h
 |agg a=>exact ARel1.ext (x:=.agg a) E h
 |box a b=>exact ARel1.ext (x:=.box a b) E h
 |row a b=>exact ARel1.ext (x:=.row a b) E h
 |rowk a b c=>exact ARel1.ext (x:=.rowk a b c) E h
 |rptr a b c d=>exact ARel1.ext (x:=.rptr a b c d) E h
 |kb a=>exact ARel1.ext (x:=.kb a) E h
 |iter a=>exact ARel1.ext (x:=.iter a) E h
 |dead=>trivial
theorem Ext.refl:Ext w g ob w g ob:=⟨fun _ _ h=>⟨h,rfl⟩,fun _ _=>rfl,fun _ h=>h,fun _ h=>h,fun _ _ _ fz e xs h=>⟨fz,e,xs,h,le_refl _,fun _=>.inl ⟨rfl,fun _ h=>⟨h,rfl⟩⟩⟩,fun _ _ _ _=>⟨rfl,fun _ _ h=>h⟩⟩
theorem Ext.below(M:Mem w g ob)(hb:Below w.heap.size w w'):Ext w g ob w' g ob :=
 ⟨fun b o h=>⟨h,World.cell?_of_block (w:=w) (hb.block b (M.imm b o h).1)⟩,fun _ _=>rfl,fun _ h=>h,fun _ h=>h,
  fun _ _ _ fz e xs h=>⟨fz,e,xs,h,le_refl _,fun _=>.inl ⟨rfl,fun b hG=>⟨hG,hb.block b (M.own b _ hG).1⟩⟩⟩,fun _ _ _ _=>⟨rfl,fun _ _ h=>h⟩⟩
theorem Mem.below(M:Mem w g ob)(hb:Below w.heap.size w w'):Mem w' g ob:=by
 have E:=Ext.below M hb
 refine⟨fun id cs h=>?_,fun id cs h j u hj=>?_,fun id s pos h=>?_,fun b id h=>⟨Nat.lt_of_lt_of_le (M.own b id h).1 hb.size,(M.own b id h).2⟩,
  fun b o h=>⟨Nat.lt_of_lt_of_le (M.imm b o h).1 hb.size,(M.imm b o h).2⟩,M.roww,M.nsub,M.uniq⟩
 ·obtain⟨h1,cur,T,h2,h3⟩:=M.box id cs h
  exact⟨h1,cur,T,by rw[hb.block _ (M.own _ _ h1).1];exact h2,h3.ext E⟩
 ·obtain⟨h1,y,h2,h3⟩:=M.fbox id cs h j u hj
  exact⟨h1,y,by rw[(E.A _ _ h1).2];exact h2,h3.keep E.A⟩
 ·obtain⟨h1,h2⟩:=M.iter id s pos h
  exact⟨h1,by rw[hb.block _ (M.own _ _ h1).1];exact h2⟩
end
def Q2B:TypeDesc->Bool×Nat×List (Nat×Nat)×Option IntKind×Bool×Nat
 |.struct fs=>(true,0,fs.toList.map (fun f=>(f.offset,f.type)),none,false,1)
 |.slice e=>(false,e,[],none,true,2)
 |.int k=>(false,0,[],some k,false,3)
 |.pointer _=>(false,0,[],none,false,4)
 |.bool=>(false,0,[],none,false,5)
 |.string=>(false,0,[],none,false,6)
 |.func _ _ _=>(false,0,[],none,false,7)
 |.array n e=>(true,e,[],none,false,100+n)
 |_=>(false,0,[],none,false,0)
structure TiOk (P:Program) (t:Nat) (x:TI):Prop where
 info:(P.info? t).map (fun i=>(i.size,i.bytes,i.zero.map (·.cells.toList)))=some (x.size,x.bytes,some x.zero)
 und:(P.underlying t).map Q2B=some (x.agg,x.elem,x.flds,x.kind,x.sl,x.kd)
 zl:x.zero.length=x.size
 one:x.agg=false->x.size=1
 by_:x.bytes<=140000
 fi:x.flds.all (fun f=>(P.info? f.2).isSome)=true
 zone:x.zero.all (·.oneCell')=true
 okk:x.ok=true
def QeQ(P:Program)(l:List (Nat×TI)):Prop:=∀t x,(t,x)∈l->TiOk P t x
def TyOk(P:Program)(ty:Tys):Prop:=QeQ P (ty ())
section
variable {P:Program}{ty:Tys}
theorem Q2S(hT:TyOk P ty){t:Nat}(h:(Q5 t ty).ok=true):TiOk P t (Q5 t ty):=by
 suffices H:∀l:List (Nat×TI),(∀t x,(t,x)∈l->TiOk P t x)->(Q6l t l).ok=true->TiOk P t (Q6l t l) from H (ty ()) hT h
 intro l;induction l with
 |nil=>intro _ h;cases h
 |cons a r ih =>
  obtain⟨u,x⟩:=a;intro h1 h2;unfold Q6l at h2 ⊢;by_cases e:t=u
  ·subst e
   rw[if_pos rfl];exact h1 _ _ (mem_cons_self)
  ·rw[if_neg e]at h2 ⊢
   exact ih (fun t x h=>h1 t x (mem_cons_of_mem _ h)) h2
theorem Qhl(hT:TyOk P ty)(t:Nat):TiOk P t (Q5 t ty)\/Q5 t ty=⟨0,false,0,[],[],none,0,false,0,false⟩:=by
 suffices H:∀l:List (Nat×TI),(∀t x,(t,x)∈l->TiOk P t x)->TiOk P t (Q6l t l)\/Q6l t l=⟨0,false,0,[],[],none,0,false,0,false⟩ from H (ty ()) hT
 intro l;induction l with
 |nil=>intro _;exact .inr rfl
 |cons a r ih =>
  obtain⟨u,x⟩:=a;intro h1;unfold Q6l;by_cases e:t=u
  ·subst e
   rw[if_pos rfl];exact .inl (h1 _ _ (mem_cons_self))
  ·rw[if_neg e]
   exact ih (fun t x h=>h1 t x (mem_cons_of_mem _ h))
theorem Q5b(hT:TyOk P ty){t k:Nat}(h:(Q5 t ty).kd=k)(hk:k≠0):TiOk P t (Q5 t ty):=by
 rcases Qhl hT t with h1|h1
 ·exact h1
 ·rw[h1]at h;exact absurd h.symm hk
theorem Qae(hT:TyOk P ty){t:Nat}(h:(Q5 t ty).sl=true):TiOk P t (Q5 t ty):=by
 rcases Qhl hT t with h1|h1
 ·exact h1
 ·rw[h1]at h;cases h
theorem Q8t(hT:TyOk P ty){t:Nat}{k:IntKind}(h:(Q5 t ty).kind=some k):TiOk P t (Q5 t ty):=by
 rcases Qhl hT t with h1|h1
 ·exact h1
 ·rw[h1]at h;cases h
theorem QfJ(hT:TyOk P ty){t f:Nat}{q:Nat×Nat}(h:(Q5 t ty).flds[f]?=some q):TiOk P t (Q5 t ty):=by
 rcases Qhl hT t with h1|h1
 ·exact h1
 ·rw[h1]at h;simp at h
theorem TiOk.i{t:Nat}{x:TI}(h:TiOk P t x):∃i z,P.info? t=some i/\i.size=x.size/\i.bytes=x.bytes/\i.zero=some z/\z.cells.toList=x.zero:=by
 have:=h.info
 cases hi:P.info? t with
 |none=>simp[hi]at this
 |some i =>
  rw[hi]at this;simp only[Option.map_some,Option.some.injEq,Prod.mk.injEq,Option.map_eq_some_iff]at this;obtain⟨h1,h2,z,h3,h4⟩:=this;exact⟨i,z,rfl,h1,h2,h3,h4⟩
theorem TiOk.u{t:Nat}{x:TI}(h:TiOk P t x):∃d,P.underlying t=some d/\Q2B d=(x.agg,x.elem,x.flds,x.kind,x.sl,x.kd):=by
 have:=h.und
 cases hi:P.underlying t with
 |none=>simp[hi]at this
 |some d=>rw[hi]at this;exact⟨d,rfl,by simpa using this⟩
theorem TiOk.size{t:Nat}{x:TI}(h:TiOk P t x)(W:World):(sizeOf t).run P W=.ok x.size W:=by
 obtain⟨i,z,h1,h2,_⟩:=h.i;simp[sizeOf,typeInfo,h1,h2]
theorem TiOk.zeroV{t:Nat}{x:TI}(h:TiOk P t x):∃z,z.cells.toList=x.zero/\∀W,(zeroValue t).run P W=.ok z W:=by
 obtain⟨i,z,h1,h2,h3,h4,h5⟩:=h.i;exact⟨z,h5,fun W=>by simp[zeroValue,typeInfo,h1,h4]⟩
theorem TiOk.isAgg{t:Nat}{x:TI}(h:TiOk P t x)(W:World):(isAgg t).run P W=.ok x.agg W:=by
 obtain⟨d,h1,h2⟩:=h.u;unfold Go.isAgg;rw[Sem.run_bind,run_underlying h1];cases d<;>simp[Q2B]at h2 ⊢<;>simp_all
theorem TiOk.slice{t:Nat}{x:TI}(h:TiOk P t x)(hs:x.sl=true):P.underlying t=some (.slice x.elem):=by
 obtain⟨d,h1,h2⟩:=h.u;cases d<;>simp[Q2B]at h2<;>simp_all
theorem TiOk.str{t:Nat}{x:TI}(h:TiOk P t x)(hs:x.kd=6):P.underlying t=some .string:=by
 obtain⟨d,h1,h2⟩:=h.u;cases d<;>simp[Q2B]at h2<;>first|(simp_all;done)|omega
theorem TiOk.bool{t:Nat}{x:TI}(h:TiOk P t x)(hs:x.kd=5):P.underlying t=some .bool:=by
 obtain⟨d,h1,h2⟩:=h.u;cases d<;>simp[Q2B]at h2<;>first|(simp_all;done)|omega
theorem TiOk.slk{t:Nat}{x:TI}(h:TiOk P t x)(hs:x.kd=2):P.underlying t=some (.slice x.elem):=by
 obtain⟨d,h1,h2⟩:=h.u;cases d<;>simp[Q2B]at h2<;>first|(simp_all;done)|omega
theorem TiOk.ptr{t:Nat}{x:TI}(h:TiOk P t x)(hs:x.kd=4):∃e,P.underlying t=some (.pointer e):=by
 obtain⟨d,h1,h2⟩:=h.u;cases d<;>simp[Q2B]at h2<;>first|(simp_all;done)|omega
theorem TiOk.int{t:Nat}{x:TI}{k:IntKind}(h:TiOk P t x)(hs:x.kind=some k):P.underlying t=some (.int k):=by
 obtain⟨d,h1,h2⟩:=h.u;cases d<;>simp[Q2B]at h2<;>simp_all
theorem TiOk.strct{t:Nat}{x:TI}(h:TiOk P t x)(hs:x.kd=1):∃fs,P.underlying t=some (.struct fs)/\x.flds=fs.toList.map (fun f=>(f.offset,f.type)):=by
 obtain⟨d,h1,h2⟩:=h.u;cases d<;>simp[Q2B]at h2<;>first|(simp_all;done)|omega
theorem TiOk.arr{t:Nat}{x:TI}(h:TiOk P t x)(hs:100<=x.kd):P.underlying t=some (.array (x.kd-100) x.elem):=by
 obtain⟨d,h1,h2⟩:=h.u;cases d<;>simp[Q2B]at h2<;>try (exfalso;omega)
 obtain⟨_,rfl,_,_,_,h3⟩:=h2;rw[h1,<-h3];simp
theorem TiOk.aggd{t:Nat}{x:TI}(h:TiOk P t x)(hs:x.agg=true):∃d,P.underlying t=some d/\((∃fs,d=.struct fs)\/∃n e,d=.array n e):=by
 obtain⟨d,h1,h2⟩:=h.u;refine⟨d,h1,?_⟩;cases d<;>simp[Q2B]at h2<;>first|exact .inl ⟨_,rfl⟩|exact .inr ⟨_,_,rfl⟩|(simp_all;done)
theorem TiOk.strct'{t:Nat}{x:TI}(h:TiOk P t x){f:Nat}{q:Nat×Nat}(hs:x.flds[f]?=some q):∃fs fd,P.underlying t=some (.struct fs)/\fs[f]?=some fd/\q=(fd.offset,fd.type):=by
 have ha:x.kd=1:=by
  obtain⟨d,h1,h2⟩:=h.u;cases d<;>simp[Q2B]at h2<;>simp_all
 obtain⟨fs,h1,h2⟩:=h.strct ha;rw[h2,List.getElem?_map,Option.map_eq_some_iff]at hs;obtain⟨fd,h3,h4⟩:=hs;exact⟨fs,fd,h1,by simpa using h3,h4.symm⟩
end
section
variable {w:World}{g:Gh}{ob:List Ob}{v:Value}{x:AV}
theorem PRel.to0(h:PRel w g.A v x):ARel0 w g ob v x:=by cases h<;>first|exact .val _ ‹_›|exact .nil _|exact .slc _ _ _ _ _ _ ‹_› ‹_› ‹_› ‹_› ‹_›|exact .ref _ _ _ _ ‹_› ‹_›|exact .opt _ _ ‹_› ‹_›
theorem ARel0.to1(h:ARel0 w g ob v x):ARel1 w g ob v x:=by cases x<;>first|exact h|exact(show False from h).elim
theorem ARel1.to(h:ARel1 w g ob v x):ARel w g ob v x:=by cases x<;>first|exact h|exact(show False from h).elim
theorem ARel0.to(h:ARel0 w g ob v x):ARel w g ob v x:=h.to1.to
theorem PRel.to(h:PRel w g.A v x):ARel w g ob v x:=(PRel.to0 h).to
theorem ARel.valEq{u:Value}(h:ARel w g ob v (.val u)):v=u:=by
 cases(show PRel w g.A v (.val u) from h);rfl
end
theorem ARel0.one{w:World}{g:Gh}{ob:List Ob}{v:Value}{x:AV}(h:ARel0 w g ob v x)(hl:x.live=true):v.oneCell'=true:=by
 cases x with
 |val _=>exact PRel.one h
 |slc _ _=>exact PRel.one h
 |ref _=>exact PRel.one h
 |opt _=>exact PRel.one h
 |box _ _=>rw[h.1];rfl
 |row _ _=>exact h.1
 |rowk _ _ _=>exact h.1
 |rptr _ _ _ _=>exact h.1
 |kb _=>rw[show v=_ from h];rfl
 |iter _=>rw[h.1];rfl
 |dead=>cases hl
 |agg _=>exact h.elim
 |tup _=>exact h.elim
theorem Qcd{v:Value}(h:v.oneCell'=true):v.cells=#[v]:=by cases v<;>first|rfl|cases h
theorem ARel.cells{w:World}{g:Gh}{ob:List Ob}{v:Value}{x:AV}(h:ARel w g ob v x)(hl:x.live=true):ARelC w g ob v.cells.toList x.cells:=by
 have one:∀{v:Value}{x:AV},ARel0 w g ob v x->x.live=true->x.cells=[x]->ARelC w g ob v.cells.toList x.cells:=by
  intro v x h hl hx;rw[Qcd (h.one hl),hx];refine⟨rfl,fun j y u hy hu=>?_⟩
  cases j with
  |zero =>
   obtain rfl:v=y:=by simpa using hy
   obtain rfl:x=u:=by simpa using hu
   exact⟨h,h.one hl⟩
  |succ j=>simp at hu
 cases x with
 |agg cs=>obtain⟨vs,rfl,h⟩:=h;exact h
 |tup _=>cases hl
 |dead=>cases hl
 |val a=>exact one (x:=.val a) h hl rfl
 |slc a b=>exact one (x:=.slc a b) h hl rfl
 |ref a=>exact one (x:=.ref a) h hl rfl
 |opt a=>exact one (x:=.opt a) h hl rfl
 |box a b=>exact one (x:=.box a b) h hl rfl
 |row a b=>exact one (x:=.row a b) h hl rfl
 |rowk a b c=>exact one (x:=.rowk a b c) h hl rfl
 |rptr a b c d=>exact one (x:=.rptr a b c d) h hl rfl
 |kb a=>exact one (x:=.kb a) h hl rfl
 |iter a=>exact one (x:=.iter a) h hl rfl
theorem QmX(v:Value):Qp6 v=v.oneCell':=by cases v<;>rfl
def Q1A(w:World)(g:Gh)(s:St)(a:Act):Prop:=∀t,ARel w g s.ob (a.tmps.getD t undef) (lk t s.tm)
theorem QT{w:World}{g:Gh}{s:St}{a:Act}(hS:Q1A w g s a)(x:Operand):ARel w g s.ob (a.eval x) (ev s x):=by
 cases x with
 |tmp t =>
  have h:=hS t;simp only[ev,Act.eval];cases hl:lk t s.tm with
  |kb b =>
   rw[hl]at h;have h:a.tmps.getD t undef=.bool b:=h;rw[h];exact .val _ rfl
  |_=>rw[hl]at h;exact h
 |const v =>
  simp only[ev,Act.eval];split
  ·rename_i h;exact .val _ (by rw[<-QmX];exact h)
  ·trivial
 |global g=>trivial
 |func f=>exact .val _ rfl
theorem Q9D{q:Nat->Value->Prop}:∀n,(∀j,j<n->∃y,q j y)->∃l:List Value,l.length=n/\∀(j:Nat) y,l[j]?=some y->q j y
 |0,_=>⟨[],rfl,fun j y h=>by simp at h⟩
 |n+1,h=>by
  obtain⟨l,h1,h2⟩:=Q9D n (fun j hj=>h j (by omega))
  obtain⟨y,hy⟩:=h n (by omega)
  refine⟨l++[y],by simp[h1],fun j z hz=>?_⟩
  by_cases hj:j<l.length
  ·rw[getElem?_append_left hj]at hz;exact h2 j z hz
  ·rw[getElem?_append_right (by omega)]at hz
   have:j=n:=by
    have:=Qa hz
    simp at this;omega
   subst this;rw[h1,Nat.sub_self]at hz;simp at hz;subst hz;exact hy
theorem Q6E{sz:Nat}:∀(xs:List AV),(∀x∈xs,x.cells.length=sz)->∀(i:Nat) x,xs[i]?=some x->∀k,k<sz->(QQ xs)[i * sz+k]?=x.cells[k]?
 | [],_,i,x,h,_,_=>by simp at h
 |y::r,hw,0,x,h,k,hk=>by
  simp at h;subst h;rw[QQ,flatMap_cons,getElem?_append_left (by rw[hw _ mem_cons_self];omega)]
  simp
 |y::r,hw,i+1,x,h,k,hk=>by
  rw[QQ,flatMap_cons,getElem?_append_right (by rw[hw _ mem_cons_self,succ_mul];omega),hw _ mem_cons_self]
  have:=Q6E r (fun x h=>hw x (mem_cons_of_mem _ h)) i x (by simpa using h) k hk
  rw[<-this];congr 1
  rw[succ_mul];omega
theorem RowV.cell{w:World}{g:Gh}{id et sz:Nat}{b c n:Nat}{xs:List AV}(h:RowV w g id et sz (.slice (some ⟨b,0,none⟩) n c) xs) :
  ∀(j:Nat) u,(QQ xs)[j]?=some u->∃y,w.cell? ⟨b,j,none⟩=some y/\PRel w g.A y u:=by
 obtain⟨ys,ho,hG,jX,hw⟩:=h;intro j u hu;have jA:j<ys.length:=by rw[jX.1];exact Qa hu
 have:=ho.cells (g:=b) rfl j ys[j] (getElem?_eq_getElem jA)
 rw[Addr.add_mid,Nat.zero_add]at this;exact⟨_,this,jX.2 j _ u (getElem?_eq_getElem jA) hu⟩
section
variable {w:World}{g:Gh}{s:St}{v:Value}{x:AV}
theorem Q99(M:Mem w g s.ob)(hv:ARel w g s.ob v x){cs:List AV}(h:Q8d s x=some cs) :
  ∃b o,v=.pointer (some ⟨b,o,none⟩)/\∀(j:Nat) u,cs[j]?=some u->∃y,w.cell? ⟨b,o+j,none⟩=some y/\ARel0 w g s.ob y u/\y.oneCell'=true:=by
 cases x<;>simp only[Q8d]at h<;>try (cases h;done)
 case ref l =>
  obtain rfl:l=cs:=by simpa using h
  cases(show PRel w g.A v (.ref l) from hv)with
  |ref b o cs f hcell hrel=>exact⟨b,o,rfl,fun j u hu=>⟨f j,(hcell j u hu).2,(hrel j u hu).to0,(hrel j u hu).one⟩⟩
 case box id off =>
  obtain⟨rfl,_⟩:v=.pointer (some ⟨g.loc id,off,none⟩)/\_:=hv;refine⟨_,_,rfl,?_⟩;cases j0:s.ob[id]? with
  |none=>simp[j0]at h
  |some o =>
   cases o<;>simp[j0]at h
   case box c =>
    subst h;intro j u hu;obtain⟨h1,cur,T,h2,h3,h4⟩:=M.box id c j0;rw[getElem?_drop]at hu;have jA:off+j<cur.size:=by have:=Qa hu;rw[<-h3]at this;simpa using this
    refine⟨cur[off+j],by simp[World.cell?,h2,jA],h4 (off+j) _ u (by simp[jA]) hu⟩
   case fbox c =>
    subst h;intro j u hu;rw[getElem?_drop]at hu;obtain⟨_,y,h2,h3⟩:=M.fbox id c j0 _ u hu;exact⟨y,h2,h3.to0,h3.one⟩
theorem QbX{id ep off et sz e:Nat}{fz:Bool}{i:Int}{xs:List AV}(hv:ARel w g s.ob v (.rptr id ep i off))(h1:s.ob[id]?=some (.row et sz fz e xs))(he:e=ep):∃b o,v=.pointer (some ⟨b,o,none⟩):=by
 obtain⟨_,et,sz,fz,e,xs,yC,h2,h3⟩:=hv;rw[h1]at yC;cases yC;obtain⟨b,c,h4,_⟩:=h3 he;exact⟨b,_,h4⟩
theorem QkK{id ep off et sz e:Nat}{fz:Bool}{i:Int}{xs:List AV}{b u:Nat}(hv:ARel w g s.ob (.pointer (some ⟨b,u,none⟩)) (.rptr id ep i off))(h1:s.ob[id]?=some (.row et sz fz e xs))(he:e=ep)(d:Nat) :
  ARel w g s.ob (.pointer (some ⟨b,u+d,none⟩)) (.rptr id ep i (off+d)):=by
 obtain⟨_,et,sz,fz,e,xs,yC,h2,h3⟩:=hv;rw[h1]at yC;cases yC;obtain⟨b',c,h4,h5,h6,h7⟩:=h3 he;refine⟨rfl,_,_,_,_,_,h1,h2,fun _=>⟨b',c,?_,h5,h6,h7⟩⟩
 simp only[Value.pointer.injEq,Option.some.injEq,Addr.mk.injEq]at h4 ⊢;obtain⟨rfl,rfl,_⟩:=h4;exact⟨rfl,by omega,trivial⟩
theorem Qg9(M:Mem w g s.ob){id ep off et sz e:Nat}{fz:Bool}{i:Int}{xs:List AV}(hv:ARel w g s.ob v (.rptr id ep i off))(h1:s.ob[id]?=some (.row et sz fz e xs))(he:e=ep) :
  ∃b o,v=.pointer (some ⟨b,o,none⟩)/\∀(j:Nat) u,(std.drp (std.cel (std.at_ xs i)) off)[j]?=some u->∃y,w.cell? ⟨b,o+j,none⟩=some y/\PRel w g.A y u:=by
 obtain⟨_,et,sz,fz,e,xs,yC,h2,h3⟩:=hv;rw[h1]at yC;cases yC;obtain⟨b,c,rfl,h4,h5,h6⟩:=h3 he;refine⟨b,_,rfl,fun j u hu=>?_⟩
 have hi:xs[i.toNat]?=some (xs.getD i.toNat .dead):=by
  have:i.toNat<xs.length:=by omega
  rw[List.getD_eq_getElem?_getD,getElem?_eq_getElem this];rfl
 have hw:=(M.roww _ _ _ _ _ _ h1).2;have hu:((xs.getD i.toNat .dead).cells.drop off)[j]?=some u:=hu;rw[getElem?_drop]at hu
 have hk:off+j<sz:=by
  have:=Qa hu
  rw[<-hw _ (List.mem_of_getElem? hi)];exact this
 have:=Q6E xs hw i.toNat _ hi (off+j) hk
 obtain⟨y,h7,h8⟩:=h6.cell _ u (this.trans hu);rw[<-add_assoc]at h7;exact⟨y,h7,h8⟩
theorem Qid{cs:List AV}(hv:ARel w g s.ob v (.ref cs)):∃b o,v=.pointer (some ⟨b,o,none⟩)/\∀(j:Nat) u,cs[j]?=some u->∃y,w.cell? ⟨b,o+j,none⟩=some y/\PRel w g.A y u:=by
 cases(show PRel w g.A v (.ref cs) from hv)with
 |ref b o cs f hcell hrel=>exact⟨b,o,rfl,fun j u hu=>⟨f j,(hcell j u hu).2,hrel j u hu⟩⟩
theorem QdF{A:Nat->Nat->Prop}{v:Value}{x:AV}(h:PRel w A v x)(hp:Q56 x) :
  (Q9k x=true/\v=.pointer none)\/(Q9k x=false/\∃b o,v=.pointer (some ⟨b,o,none⟩)/\PRel w A v (.ref (QgN x))):=by
 induction h with
 |val v hv =>
  cases v with
  |pointer p =>
   cases p with
   |none=>exact .inl ⟨rfl,rfl⟩
   |some _=>exact(show False from hp).elim
  |_=>exact(show False from hp).elim
 |nil sz=>exact(show False from hp).elim
 |slc=>exact(show False from hp).elim
 |ref b o cs f h1 h2=>exact .inr ⟨rfl,b,o,rfl,.ref b o cs f h1 h2⟩
 |opt v x h hx ih=>exact ih hx
theorem PRel.ofOpt{A:Nat->Nat->Prop}{v:Value}{x:AV}(h:PRel w A v (.opt x)):PRel w A v x/\Q56 x:=by
 cases h with
 |opt _ _ h1 h2=>exact⟨h1,h2⟩
theorem Ql9{v:Value}{c:AV}(h:PRel w g.A v c){l:Lf}(hl:l.has std c):PRel w g.A v (l.exp std c):=by
 cases l with
 |int k =>
  have e:c=.val (.int k (intOf c)):=hl;show PRel w g.A v (.val (.int k (intOf c)));rw[<-e];exact h
 |boo =>
  have e:c=.val (.bool (Q5y c)):=hl;show PRel w g.A v (.val (.bool (Q5y c)));rw[<-e];exact h
 |str =>
  have e:c=.val (.string (Qb2 c)):=hl;show PRel w g.A v (.val (.string (Qb2 c)));rw[<-e];exact h
 |slc sz =>
  show PRel w g.A v (.slc sz (Q2x c));rcases(show c=.slc sz (Q2x c)\/c=.val (.slice none 0 0) from hl)with e|e
  ·rw[<-e];exact h
  ·subst e
   cases h;exact PRel.nil sz
 |ptr =>
  show PRel w g.A v (.opt (Qma c));cases c<;>first|exact h|exact PRel.opt _ _ h hl
theorem Qfa{b o:Nat}{cs:List AV}(hc:∀(j:Nat) u,cs[j]?=some u->∃y,w.cell? ⟨b,o+j,none⟩=some y/\PRel w g.A y u) :
  ∀(ls:List Lf)(k:Nat),Q3t (Q8Y std cs k ls)->∀(j:Nat) u,(Q9q std cs k ls)[j]?=some u->∃y,w.cell? ⟨b,o+(k+j),none⟩=some y/\ARel0 w g s.ob y u/\y.oneCell'=true
 | [],_,_,j,u,hu=>by simp[Q9q]at hu
 |l::r,k,h,j,u,hu=>by
  obtain⟨h1,h2⟩:=h;cases j with
  |zero =>
   obtain rfl:l.exp std (std.nth cs k)=u:=by simpa[Q9q]using hu
   have hk:cs[k]?=some (std.nth cs k):=by
    show cs[k]?=some (cs.getD k .dead);rw[List.getD_eq_getElem?_getD];cases hx:cs[k]? with
    |some x=>rfl
    |none =>
     exfalso;have e:std.nth cs k=.dead:=by show cs.getD k .dead=.dead;rw[List.getD_eq_getElem?_getD,hx];rfl
     rw[e]at h1;cases l with
     |int _=>exact AV.noConfusion (show AV.dead=_ from h1)
     |boo=>exact AV.noConfusion (show AV.dead=_ from h1)
     |str=>exact AV.noConfusion (show AV.dead=_ from h1)
     |slc _=>rcases(show AV.dead=_\/AV.dead=_ from h1)with h|h<;>cases h
     |ptr=>exact h1
   obtain⟨y,h3,h4⟩:=hc k _ hk;have:=Ql9 h4 h1
   exact⟨y,h3,this.to0,this.one⟩
  |succ j =>
   obtain⟨y,h3,h4⟩:=Qfa hc r (k+1) h2 j u (by simpa[Q9q]using hu)
   exact⟨y,by rw[show k+(j+1)=k+1+j by omega];exact h3,h4⟩
theorem Qe3(cs:List AV):∀(ls:List Lf)(k:Nat),(Q9q std cs k ls).length=ls.length
 | [],_=>rfl
 |l::r,k=>by simp[Q9q,Qe3 cs r]
theorem Q4L(M:Mem w g s.ob)(hv:ARel w g s.ob v x){sz:Nat}{xs:List AV}(h:Q7t std s x=some (sz,xs)) :
  ∃A c ys,v=.slice A xs.length c/\Rd w (fun _=>True) sz A xs.length c ys/\Alike w g.A ys (QQ xs):=by
 have own:∀{id et:Nat}{v:Value}{xs:List AV},RowV w g id et sz v xs->∃A c ys,v=.slice A xs.length c/\Rd w (fun _=>True) sz A xs.length c ys/\Alike w g.A ys (QQ xs):=by
  intro id et v xs h;obtain⟨ys,ho,hG,jX,hw⟩:=h;obtain⟨A,c,rfl,hr⟩:=Q1C ho;exact⟨A,c,ys,rfl,hr.more fun _ _=>trivial,jX⟩
 cases x<;>simp only[Q7t]at h<;>try (cases h;done)
 case slc sz' l =>
  obtain⟨rfl,rfl⟩:sz'=sz/\l=xs:=by simpa using h
  cases(show PRel w g.A v (.slc sz' l) from hv)with
  |nil=>exact⟨none,0,[],rfl,⟨by simp,le_refl _,Nat.zero_le _,fun _=>rfl,fun h=>absurd h (by simp)⟩,Alike.nil⟩
  |slc b o c _ _ f hc hm hw hcell hrel =>
   obtain⟨ys,h1,h2⟩:=Q9D (q:=fun j y=>∃u,(QQ l)[j]?=some u/\y=f j) (QQ l).length (fun j hj=>⟨f j,_,getElem?_eq_getElem hj,rfl⟩)
   refine⟨_,c,ys,rfl,⟨by rw[h1,Q30 l hw],hc,hm,fun h=>(by cases h),fun _=>⟨b,o,rfl,trivial,fun j u hu=>?_⟩⟩,h1,fun j y u hy hu=>?_⟩
   ·obtain⟨u',ja,rfl⟩:=h2 j u hu
    exact(hcell j u' ja).2
   ·obtain⟨u',ja,rfl⟩:=h2 j y hy
    exact hrel j u hu
 case row id ep =>
  obtain⟨_,et,sz',fz,e,xs',h1,h2,h3⟩:=hv;simp only[h1]at h;split at h
  ·rename_i he
   obtain⟨rfl,rfl⟩:sz'=sz/\xs'=xs:=by simpa using h
   exact own (h3 he)
  ·cases h
 case rowk id ep k =>
  obtain⟨_,et,sz',fz,e,xs',h1,h2,h3⟩:=hv;simp only[h1]at h;split at h
  ·rename_i he
   obtain⟨rfl,hx⟩:sz'=sz/\std.cut xs' 0 k=xs:=by simpa using h
   obtain⟨h4,h5,h6⟩:=h3 he;have e:std.cut xs' 0 k=xs'.take k.toNat:=by simp[std]
   rw[e]at hx;subst hx;exact own h6
  ·cases h
end
def Q91:Op->Bool
 |.load _ _=>true
 |.convert _ _ _=>true
 |_=>false
section
variable {P:Program}{ty:Tys}{w:World}{g:Gh}{s:St}{a:Act}
def Yld(P:Program)(w:World)(g:Gh)(s:St)(a:Act)(o:Oper)(r:Bool)(x:AV):Prop :=
 ∃v,(∀W,(r=true->LeB w W)->(execOp a.eval o).run P W=.ok (.value v) W)/\ARel w g s.ob v x
theorem Qhu{S:Sem Value}{W:World}{v:Value}(h:S.run P W=.ok v W):(do pure (Next.value (<-S)):Sem Next).run P W=.ok (.value v) W:=by
 rw[Sem.run_bind,h];rfl
theorem Q2F{o:Oper}{r:Bool}{x:AV}{S:Sem Value}(hx:∀W,(execOp a.eval o).run P W=(do pure (Next.value (<-S)):Sem Next).run P W)
  (h:∃v,(∀W,(r=true->LeB w W)->S.run P W=.ok v W)/\ARel w g s.ob v x):Yld P w g s a o r x:=by
 obtain⟨v,h1,h2⟩:=h;exact⟨v,fun W hW=>by rw[hx,Qhu (h1 W hW)],h2⟩
theorem Qax{W:World}{b o:Nat}{y:Value}(h:w.cell? ⟨b,o,none⟩=some y)(hW:LeB w W):W.cell? ⟨b,o,none⟩=some y :=
 (World.cell?_of_block (hW.block b (World.block_lt_of_cell? w _ h))).trans h
theorem Q7M(hT:TyOk P ty){T:Nat}(jC:(Q5 T ty).ok=true){b o:Nat}{cs:List AV}
  (hc:∀(j:Nat) u,cs[j]?=some u->∃y,w.cell? ⟨b,o+j,none⟩=some y/\ARel0 w g s.ob y u/\y.oneCell'=true)
  (hl:(if(Q5 T ty).agg then(Q5 T ty).size else 1)<=cs.length) :
  ∃v,(∀W,LeB w W->(loadVar T ⟨b,o,none⟩).run P W=.ok v W)/\ARel w g s.ob v (mk ty T cs):=by
 have ti:=Q2S hT jC;cases ha:(Q5 T ty).agg with
 |true =>
  rw[ha]at hl;simp only[if_true]at hl
  obtain⟨l,h1,h2⟩:=Q9D (q:=fun j y=>w.cell? ⟨b,o+j,none⟩=some y/\∀u,cs[j]?=some u->ARel0 w g s.ob y u/\y.oneCell'=true) (Q5 T ty).size (fun j hj=>by
   obtain⟨y,h1,h2⟩:=hc j _ (getElem?_eq_getElem (by omega))
   exact⟨y,h1,fun u hu=>by rw[getElem?_eq_getElem (by omega)]at hu;cases hu;exact h2⟩)
  obtain⟨d,hu,hd⟩:=ti.aggd ha;obtain⟨i,z,hi,yt,_⟩:=ti.i;refine⟨.agg l.toArray,fun W hW=>run_loadVar_mid (P:=P) W b o T l d (fun j v hv=>Qax (h2 j v hv).1 hW) hu (by rcases hd with ⟨_,rfl⟩|⟨_,_,rfl⟩<;>rfl) (by rw[hi];simp[yt,h1]),?_⟩
  rw[mk,ha];simp only[if_true];refine⟨l.toArray,rfl,by simp[h1];omega,fun j y u hy hu=>?_⟩
  rw[List.getElem?_take]at hu;split at hu
  ·exact(h2 j y (by simpa using hy)).2 u hu
  ·cases hu
 |false =>
  rw[ha]at hl;simp only[Bool.false_eq_true,if_false]at hl;cases cs with
  |nil=>simp at hl
  |cons u r =>
   obtain⟨y,h1,h2,h3⟩:=hc 0 u rfl;refine⟨y,fun W hW=>?_,?_⟩
   ·have:=ti.isAgg W
    rw[ha]at this;have h4:=Qax h1 hW;rw[Nat.add_zero]at h4;simp[loadVar,this,h4]
   ·rw[mk,ha]
    simp only[Bool.false_eq_true,if_false,List.headD_cons];exact h2.to
theorem QkZ(hT:TyOk P ty)(hS:Q1A w g s a)(M:Mem w g s.ob){o:Oper}{T:Nat}{x:Operand}(ho:o.op=.load T x){cs:List AV}(hcs:Q8d s (ev s x)=some cs)
  (jC:(Q5 T ty).ok=true) (hl:(if(Q5 T ty).agg then(Q5 T ty).size else 1)<=cs.length):Yld P w g s a o true (mk ty T cs):=by
 obtain⟨b,of,hv,hc⟩:=Q99 M (QT hS x) hcs;obtain⟨v,h1,h2⟩:=Q7M (g:=g) hT jC hc hl;refine Q2F (S:=Instr.loadAt T (a.eval x)) (fun W=>by simp only[execOp,ho]) ⟨v,fun W hW=>?_,h2⟩
 rw[hv];simpa[Instr.loadAt,Instr.sureAddr]using h1 W (hW rfl)
theorem Qhb(hT:TyOk P ty){o:Oper}{T:Nat}{x:Operand}(ho:o.op=.load T x){cs:List AV}
  (hr:∃b of,a.eval x=.pointer (some ⟨b,of,none⟩)/\∀(j:Nat) u,cs[j]?=some u->∃y,w.cell? ⟨b,of+j,none⟩=some y/\PRel w g.A y u)
  {q:Option DP} {z:AV} (h:QmV std ty T cs=some (q,z)) (hq:∀r,q=some r->r):Yld P w g s a o true z:=by
 obtain⟨b,of,hv,hc⟩:=hr
 have key:∀ls:List Lf,(if(Q5 T ty).ok=true/\ls.length=(Q5 T ty).size then some (some (std.all (Q8Y std cs 0 ls)),mk ty T (Q9q std cs 0 ls))else none)=some (q,z)->Yld P w g s a o true z:=fun ls h=>by
  by_cases hk:(Q5 T ty).ok=true/\ls.length=(Q5 T ty).size
  ·rw[if_pos hk]at h
   simp only[Option.some.injEq,Prod.mk.injEq]at h;obtain⟨rfl,rfl⟩:=h;have hA:Q3t (Q8Y std cs 0 ls):=hq _ rfl
   have hl:(if(Q5 T ty).agg then(Q5 T ty).size else 1)<=(Q9q std cs 0 ls).length:=by
    rw[Qe3,hk.2];cases hag:(Q5 T ty).agg with
    |true=>exact le_refl _
    |false=>have:=(Q2S hT hk.1).one hag;simp;omega
   obtain⟨v,h1,h2⟩:=Q7M (g:=g) hT hk.1 (b:=b) (o:=of) (cs:=Q9q std cs 0 ls) (fun j u hu=>by
    have:=Qfa (s:=s) hc ls 0 hA j u hu
    rw[Nat.zero_add]at this;exact this) hl
   refine Q2F (S:=Instr.loadAt T (a.eval x)) (fun W=>by simp only[execOp,ho]) ⟨v,fun W hW=>?_,h2⟩
   rw[hv];simpa[Instr.loadAt,Instr.sureAddr]using h1 W (hW rfl)
  ·rw[if_neg hk]at h;cases h
 unfold QmV at h;split at h
 ·exact key _ h
 ·split at h
  ·exact key _ h
  ·cases h
theorem Q5s(hT:TyOk P ty)(hS:Q1A w g s a){o:Oper}{T:Nat}{x:Operand}{f off t:Nat}(ho:o.op=.fieldAddr T x f)
  (hf:(Q5 T ty).flds[f]?=some (off,t)) (yP:fOk ty t=true) {y:AV}
  (hy:∀b u,ARel w g s.ob (.pointer (some ⟨b,u,none⟩)) (ev s x)->ARel w g s.ob (.pointer (some ⟨b,u+off,none⟩)) y)
  (hp:∃b u,a.eval x=.pointer (some ⟨b,u,none⟩)):Yld P w g s a o false y:=by
 obtain⟨b,u,hv⟩:=hp;have hr:=QT hS x;rw[hv]at hr;obtain⟨fs,fd,h1,h2,h3⟩:=(QfJ hT hf).strct' hf;obtain⟨rfl,rfl⟩:off=fd.offset/\t=fd.type:=by simpa using h3
 simp only[fOk,Bool.and_eq_true,bne_iff_ne,ne_eq]at yP;refine Q2F (S:=Instr.fieldAt T (a.eval x) f) (fun W=>by simp only[execOp,ho]) ⟨_,fun W _=>?_,hy b u hr⟩
 have hs:=(Q2S hT yP.1).size W;rw[hv];simp[Instr.fieldAt,run_underlying h1,h2,Instr.sureAddr,fieldPlace,hs,yP.2,Addr.add_mid]
theorem Q4i{x:AV}{v:Value}(h:ARel w g s.ob v x)(hx:(∃cs,x=.ref cs)\/(∃i o,x=.box i o)):∃b u,v=.pointer (some ⟨b,u,none⟩):=by
 rcases hx with ⟨cs,rfl⟩|⟨i,o,rfl⟩
 ·cases(show PRel w g.A v (.ref cs) from h)with
  |ref b u cs f h1 h2=>exact⟨b,u,rfl⟩
 ·exact⟨_,_,h.1⟩
theorem Qhx{cs:List AV}{b u:Nat}(h:ARel w g s.ob (.pointer (some ⟨b,u,none⟩)) (.ref cs))(off:Nat):ARel w g s.ob (.pointer (some ⟨b,u+off,none⟩)) (.ref (cs.drop off)):=by
 cases(show PRel w g.A _ (.ref cs) from h)with
 |ref b u cs f h1 h2 =>
  refine PRel.ref _ _ _ (fun j=>f (off+j)) (fun j x hx=>?_) (fun j x hx=>?_)
  ·rw[getElem?_drop]at hx
   rw[add_assoc];exact h1 _ x hx
  ·rw[getElem?_drop]at hx
   exact h2 _ x hx
theorem QcD(hT:TyOk P ty){T sz:Nat}(jc:Q6z ty T sz=true){A:Option Addr}{n c:Nat}{k:IntKind}{i:Int}{b o:Nat}(hA:A=some ⟨b,o,none⟩)(h0:0<=i)(h1:i<n)(W:World) :
  (Instr.indexAt T (.slice A n c) (.int k i)).run P W=.ok (.pointer (some ⟨b,o+i.toNat * sz,none⟩)) W:=by
 simp only[Q6z,Bool.and_eq_true,beq_iff_eq,bne_iff_ne,ne_eq]at jc;obtain⟨⟨⟨⟨h2,h3⟩,h4⟩,h5⟩,h6⟩:=jc;have hu:=(Q2S hT h2).slice h3;have hs:=(Q2S hT h4).size W;subst hA;have h7:(0<=i/\i<(n:Int))=True:=by simp[h0,h1]
 simp[Instr.indexAt,asIntOf,run_underlying hu,h0,h1,hs,Addr.add_mid,h5]
theorem QeS(hT:TyOk P ty){T:Nat}{x y:AV}{vx:Value}{kn:IntKind}{k:Int}(hk:QlZ ty T k=true)(hr:ARel w g s.ob vx x)
  (hy:∀b u,ARel w g s.ob (.pointer (some ⟨b,u,none⟩)) x->ARel w g s.ob (.pointer (some ⟨b,u+k.toNat * (Q5 (Q5 T ty).elem ty).size,none⟩)) y)
  (hp:∃b u,vx=.pointer (some ⟨b,u,none⟩)):∃v,(∀W,(false=true->LeB w W)->(Instr.indexAt T vx (.int kn k)).run P W=.ok v W)/\ARel w g s.ob v y:=by
 obtain⟨b,u,rfl⟩:=hp;simp only[QlZ,Bool.and_eq_true,decide_eq_true_eq]at hk;obtain⟨h0,h1,h2,h3⟩:=hk;have h0:=Nat.le_of_ble_eq_true h0;have hu:=(Q5b hT (k:=(Q5 T ty).kd) rfl (by omega)).arr h0
 refine⟨_,fun W _=>?_,hy b u hr⟩
 have hs:=(Q2S hT h1).size W;simp[Instr.indexAt,asIntOf,Instr.sureAddr,run_underlying hu,h2,h3,hs,Addr.add_mid]
theorem QoG{xs:List AV}{i:Int}(h0:0<=i)(h1:i<xs.length):xs[i.toNat]?=some (std.at_ xs i):=by
 have h:i.toNat<xs.length:=by omega
 show xs[i.toNat]?=some (xs.getD i.toNat .dead);rw[List.getD_eq_getElem?_getD,getElem?_eq_getElem h];rfl
theorem QbE(hT:TyOk P ty)(hS:Q1A w g s a)(M:Mem w g s.ob){o:Oper}{T:Nat}{x i:Operand}{q:Option DP}{y:AV}(ho:o.op=.indexAddr T x i)
  (h:Q2O std ty s o.op=some (q,y)) (hq:∀r,q=some r->r):Yld P w g s a o false y:=by
 rw[ho]at h;simp only[Q2O]at h;have hx:=QT hS x;have hi:=QT hS i;refine Q2F (S:=Instr.indexAt T (a.eval x) (a.eval i)) (fun W=>by simp only[execOp,ho]) ?_
 split at h
 ·rename_i k n hei
  rw[hei]at hi;rw[hi.valEq];split at h
  ·rename_i sz xs xB
   rw[xB]at hx;split at h
   ·rename_i jc
    simp only[Option.some.injEq,Prod.mk.injEq]at h;obtain⟨rfl,rfl⟩:=h;obtain⟨h0,h1⟩:0<=n/\n<(xs.length:Int):=hq _ rfl;generalize a.eval x=vx at hx;cases(show PRel w g.A _ (.slc sz xs) from hx)with
    |nil=>simp at h1;omega
    |slc b o c _ _ f hc hm hw hcell hrel =>
     refine⟨_,fun W _=>QcD hT jc rfl h0 h1 W,?_⟩
     have hg:=QoG h0 h1;have hwx:=hw _ (List.mem_of_getElem? hg);refine PRel.ref _ _ _ (fun j=>f (n.toNat * sz+j)) (fun j u hu=>?_) (fun j u hu=>?_)
     ·have:=Q6E xs hw _ _ hg j (by rw[<-hwx];exact Qa hu)
      rw[add_assoc];exact hcell _ u (this.trans hu)
     ·have:=Q6E xs hw _ _ hg j (by rw[<-hwx];exact Qa hu)
      exact hrel _ u (this.trans hu)
   ·cases h
  ·rename_i id ep xB
   rw[xB]at hx;obtain⟨_,et,sz,fz,e,xs,h1,h2,h3⟩:=hx;simp only[h1]at h;split at h
   ·rename_i jc
    simp only[Option.some.injEq,Prod.mk.injEq]at h;obtain⟨rfl,rfl⟩:=h;obtain⟨h4,h5⟩:0<=n/\n<(xs.length:Int):=hq _ rfl;obtain⟨ys,yu,h6,h7,h8⟩:=h3 jc.1;rcases yu.2 with ⟨h9,qh⟩|⟨b,cap,cur,hv,h9⟩
    ·omega
    ·rw[hv]
     refine⟨_,fun W _=>QcD hT jc.2 rfl h4 h5 W,rfl,et,sz,fz,e,xs,h1,h2,fun _=>⟨b,cap,by simp,h4,h5,?_⟩⟩
     exact⟨ys,hv ▸ yu,by rw[<-hv];exact h6,h7,by rw[<-hv];exact h8⟩
   ·cases h
  ·rename_i id of xB
   rw[xB]at hx;split at h
   ·rename_i hk
    obtain⟨rfl,rfl⟩:=(by simpa using h:none=q/\AV.box id (of+n.toNat * (Q5 (Q5 T ty).elem ty).size)=y)
    refine QeS hT hk hx (fun b u hr=>?_) (Q4i hx (.inr ⟨_,_,rfl⟩))
    obtain⟨h1,h2⟩:=hr;simp only[Value.pointer.injEq,Option.some.injEq,Addr.mk.injEq,and_true]at h1;exact⟨by rw[h1.1,h1.2],h2⟩
   ·cases h
  ·rename_i cs xB
   rw[xB]at hx;split at h
   ·rename_i hk
    obtain⟨rfl,rfl⟩:=(by simpa using h:none=q/\AV.ref (std.drp cs (n.toNat * (Q5 (Q5 T ty).elem ty).size))=y)
    exact QeS hT hk hx (fun b u hr=>Qhx hr _) (Q4i hx (.inl ⟨_,rfl⟩))
   ·cases h
  ·cases h
 ·cases h
theorem PRel.cut{b o c n sz:Nat}{xs:List AV}{A:Nat->Nat->Prop}(h:PRel w A (.slice (some ⟨b,o,none⟩) n c) (.slc sz xs)){l k:Nat}(hl:l<=k)(hk:k<=xs.length)(c':Nat)(zm:k-l<=c')(hm':c'<=maxLen) :
  PRel w A (.slice (some ⟨b,o+l * sz,none⟩) (k-l) c') (.slc sz ((xs.drop l).take (k-l))):=by
 cases h with
 |slc b o c _ _ f hc hm hw hcell hrel =>
  have jE:((xs.drop l).take (k-l)).length=k-l:=by simp;omega
  have vL:∀j u,(QQ ((xs.drop l).take (k-l)))[j]?=some u->(QQ xs)[l * sz+j]?=some u:=by
   intro j u hu;have kV:∀x∈(xs.drop l).take (k-l),x.cells.length=sz:=fun x hx=>hw x (List.mem_of_mem_drop (mem_of_mem_take hx))
   have e:QQ xs=QQ (xs.take l)++(QQ ((xs.drop l).take (k-l))++QQ ((xs.drop l).drop (k-l))):=by
    rw[<-List.flatMap_append,List.take_append_drop,<-List.flatMap_append,List.take_append_drop]
   have h1:(QQ (xs.take l)).length=l * sz:=by
    rw[Q30 _ (fun x hx=>hw x (mem_of_mem_take hx)),length_take,min_eq_left (by omega)]
   rw[e,getElem?_append_right (by omega),h1,Nat.add_sub_cancel_left,getElem?_append_left (Qa hu)]
   exact hu
  have:=PRel.slc (w:=w) (A:=A) b (o+l * sz) c' sz ((xs.drop l).take (k-l)) (fun j=>f (l * sz+j)) (by omega) hm' (fun x hx=>hw x (List.mem_of_mem_drop (mem_of_mem_take hx)))
   (fun j u hu=>by rw[add_assoc];exact hcell _ u (vL j u hu)) (fun j u hu=>hrel _ u (vL j u hu))
  rw[jE]at this;exact this
end
