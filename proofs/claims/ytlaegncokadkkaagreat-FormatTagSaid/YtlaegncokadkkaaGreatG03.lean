/- Lemmas, conditions told -/
import GoSem.Core.Code
import GoSem.Core.Utf8
import GoSem.Instr.Build
import GoSem.Op.IntBits
import GoSem.Op.Shift
import Derived.Test.YtlaegncokadkkaaGreatG01
import Derived.Laws.Cover4
import Derived.Deep.MidRow
import Derived.Lib.SliceRun
set_option maxRecDepth 99999
set_option maxHeartbeats 0
set_option linter.unusedSimpArgs false
set_option linter.unusedVariables false
namespace Go.Proofs.YtlaegncokadkkaaGreat
open List(getElem?_eq_getElem getElem?_drop flatMap_cons mem_cons_self mem_cons_of_mem length_take take_length)
open Nat(succ_mul le_refl)
section
theorem exq{α:Sort _}(a:α):∃x,x=a:=⟨a,rfl⟩
inductive AV where
 |val (v:Value)
 |slc (sz:Nat) (xs:List AV)
 |agg (cs:List AV)
 |ref (cs:List AV)
 |tup (vs:List AV)
 |box (id off:Nat)
 |row (id ep:Nat)
 |rowk (id ep:Nat) (k:Int)
 |rptr (id ep:Nat) (i:Int) (off:Nat)
 |kb (t:Bool)
 |iter (id:Nat)
 |clo (f id off:Nat) (first:Bool)
 |opt (x:AV)
 |dead
 deriving Inhabited
def AV.cells:AV->List AV
 |.agg cs=>cs
 |x=>[x]
def AV.live:AV->Bool
 |.dead=>false
 |.tup _=>false
 |_=>true
def AV.pur0:AV->Bool
 |.val _=>true
 |.slc _ _=>true
 |.ref _=>true
 |.opt _=>true
 |_=>false
def AV.pur:AV->Bool
 |.agg cs=>cs.all AV.pur0
 |x=>x.pur0
inductive It where
 |str (s:ByteArray) (pos:Nat)
 |map (es:List (AV×AV))
 |mit (m:Nat) (es:List (AV×AV)) (seen:List Nat) (cur:Option (Nat×(AV×AV)))
inductive Ob where
 |box (cs:List AV)
 |fbox (cs:List AV)
 |row (et sz:Nat) (fz:Bool) (ep:Nat) (xs:List AV)
 |iter (x:It)
 |gone
 deriving Inhabited
structure St where
 tm:List (Nat×AV)
 ob:List Ob
structure TI where
 size:Nat
 agg:Bool
 elem:Nat
 flds:List (Nat×Nat)
 zero:List Value
 kind:Option IntKind
 bytes:Nat
 sl:Bool
 kd:Nat
 ok:Bool:=true
 key:Nat:=0
structure DP where
 q:Prop
 b:Bool
 h:b=true↔q
instance:CoeSort DP Prop:=⟨DP.q⟩
structure Pr where
 eqI:Int->Int->Bool
 ltI:Int->Int->Bool
 leI:Int->Int->Bool
 add:Int->Int->Int
 sub:Int->Int->Int
 mul:Int->Int->Int
 quo:Int->Int->Int
 rem:Int->Int->Int
 inR:IntKind->Int->DP
 nz:Int->DP
 wrap:IntKind->Int->Int
 minI:Int->Int->Int
 maxI:Int->Int->Int
 notB:Bool->Bool
 eqB:Bool->Bool->Bool
 andB:Bool->Bool->Bool
 bits:BinOp->IntKind->Int->Int->Int
 shl:IntKind->Int->Int->Int
 shr:Int->Int->Int
 nn:Int->DP
 emp:List AV->DP
 eqS:ByteArray->ByteArray->Bool
 catS:ByteArray->ByteArray->ByteArray
 catok:ByteArray->ByteArray->DP
 szS:ByteArray->Int
 idxS:ByteArray->Int->Int
 cutS:ByteArray->Int->Int->ByteArray
 bytesS:ByteArray->List AV
 strB:List AV->ByteArray
 isB:List AV->DP
 strR:List AV->ByteArray
 encS:Int->ByteArray
 isR:List AV->DP
 len:List AV->Int
 at_:List AV->Int->AV
 inb:Int->Int->DP
 cut:List AV->Int->Int->List AV
 cutok:Int->Int->Int->DP
 app:List AV->List AV->List AV
 bnd:List AV->List AV->DP
 more:List AV->DP
 itmore:ByteArray->Nat->Bool
 itr:ByteArray->Nat->Int
 itp:ByteArray->Nat->Nat
 toI:Nat->Int
 szok:ByteArray->DP
 nth:List AV->Nat->AV
 cel:AV->List AV
 drp:List AV->Nat->List AV
 int:AV->Int
 boo:AV->Bool
 str:AV->ByteArray
 lst:AV->List AV
 prf:AV->List AV
 isN:AV->Bool
 uno:AV->AV
 hasI:IntKind->AV->DP
 hasB:AV->DP
 hasS:AV->DP
 hasL:Nat->AV->DP
 hasP:AV->DP
 hasR:AV->DP
 all:List DP->DP
 setx:List AV->Int->Nat->List AV->List AV
 samE:List (AV×AV)->List (AV×AV)->DP
 ltS:ByteArray->ByteArray->Bool
 isE:List (AV×AV)->Nat->AV×AV->Prop
 appE:List (AV×AV)->AV×AV->List (AV×AV)
 setE:List (AV×AV)->Nat->AV×AV->List (AV×AV)
 appN:List Nat->Nat->List Nat
def lk(t:Nat):List (Nat×AV)->AV
 | []=>.dead
 |(u,x)::r=>if t=u then x else lk t r
def QmI:Value->Bool
 |.agg _|.tuple _=>false
 |_=>true
def ev(s:St):Operand->AV
 |.tmp t=>match lk t s.tm with|.kb b=>.val (.bool b)|x=>x
 |.const v=>if QmI v then .val v else(match v with
  |.agg cs=>if cs.toList.all QmI=true then .agg (cs.toList.map .val)else .dead
  |_=>.dead)
 |.global _=>.dead
 |.func f=>.val (.func (.func f) #[] #[])
def evk(s:St):Operand->AV
 |.tmp t=>lk t s.tm
 |.const (.bool b)=>.kb b
 |x=>ev s x
abbrev Tys:=Unit->List (Nat×TI)
def Q5Q(t:Nat):List (Nat×TI)->TI
 | []=>⟨0,false,0,[],[],none,0,false,0,false,0⟩
 |(u,x)::r=>if t=u then x else Q5Q t r
def Q1(t:Nat)(ty:Tys):TI:=Q5Q t (ty ())
inductive Lf where
 |int (k:IntKind)
 |boo
 |str
 |slc (sz:Nat)
 |ptr
inductive Ex where
 |normal
 |exit (id:Nat)
 |ret
 |pan (v:Value)
inductive Srt where
 |int (k:IntKind)
 |boo
 |str
inductive Tree where
 |leaf (e:Ex) (s:St)
 |br (c:Bool) (t f:Tree)
 |need (q:DP) (t:Tree)
 |call (f:Nat) (args:List AV) (ob:List Ob) (res:AV) (ob':List Ob) (t:Tree)
 |pan (f:Nat) (args:List AV) (ob:List Ob) (v:Value)
 |both (a b:Tree)
 |either (q:DP) (a b:Tree)
 |ask (T:Nat) (sh:List Srt) (t:Tree)
 |askK (T:Nat) (sh:List Srt) (t:Tree)
 |loop (body:Code) (s:St) (K:Ex->St->Tree)
 |nxt (q:DP) (es:List (AV×AV)) (seen:List Nat) (f:Nat->AV×AV->Tree) (t:Tree)
 |prop (q:Prop) (t:Tree)
 |look (k:AV) (es:List (AV×AV)) (f:Nat->AV->Tree) (n:Tree)
 |stuck (n:Nat)
def roT(T:Nat):Bool:=T == 146||T == 103
def Q4e:Nat:=136
def Qh0:Nat:=3
def Q8W:List AV->Bool
 | []=>true
 |x::r=>match x.cells with
  | [_,.val (.slice none 0 0)]=>Q8W r
  |_=>false
def Q9n(E:Nat)(xs:List AV):Bool:=if E=Q4e then Q8W xs else true
def setCells(cs:List AV)(off:Nat)(new:List AV):List AV:=cs.take off++new++cs.drop (off+new.length)
def St.put(s:St)(d:Option Nat)(x:AV):St:=match d with|some t=>⟨(t,x)::s.tm,s.ob⟩|none=>s
section
variable (p:Pr) (ty:Tys)
def mk(T:Nat)(cs:List AV):AV :=
 if(Q1 T ty).agg then .agg (cs.take (Q1 T ty).size)else cs.headD .dead
def Q7k(s:St):AV->Option (List AV)
 |.ref cs=>some cs
 |.box id off=>match s.ob[id]? with|some (.box cs)|some (.fbox cs)=>some (cs.drop off)|_=>none
 |_=>none
def Qbz:Nat->Nat->Option (List Lf)
 |0,_=>none
 |n+1,T=>match(Q1 T ty).kd with
  |1=>(Q1 T ty).flds.foldl (fun acc f=>match acc,Qbz n f.2 with
   |some a,some b=>some (a++b)
   |_,_=>none) (some [])
  |2=>some [.slc (Q1 (Q1 T ty).elem ty).size]
  |3=>match(Q1 T ty).kind with
   |some k=>some [.int k]
   |none=>none
  |4=>some [.ptr]
  |5=>some [.boo]
  |6=>some [.str]
  |_=>none
def Qna(T:Nat):Bool:=match(Q1 T ty).kd with
 |4=>true
 |7=>true
 |1=>if roT T then false else(match Qbz ty 5 T with
  |some ls=>ls.any fun|.ptr=>true|_=>false
  |none=>true)
 |_=>false
def Lf.exp(c:AV):Lf->AV
 |.int k=>.val (.int k (p.int c))
 |.boo=>.val (.bool (p.boo c))
 |.str=>.val (.string (p.str c))
 |.slc sz=>.slc sz (p.lst c)
 |.ptr=>.opt (p.uno c)
def Lf.has(c:AV):Lf->DP
 |.int k=>p.hasI k c
 |.boo=>p.hasB c
 |.str=>p.hasS c
 |.slc sz=>p.hasL sz c
 |.ptr=>p.hasP c
def Q8N(cs:List AV):Nat->List Lf->List AV
 |_,[]=>[]
 |j,l::r=>l.exp p (p.nth cs j)::Q8N cs (j+1) r
def Q87(cs:List AV):Nat->List Lf->List DP
 |_,[]=>[]
 |j,l::r=>l.has p (p.nth cs j)::Q87 cs (j+1) r
def QkF(T:Nat):Option (List Lf):=if Nat.ble 100 (Q1 T ty).kd then(match Qbz ty 4 (Q1 T ty).elem with
 |some a=>some (List.replicate ((Q1 T ty).kd-100) a).flatten
 |none=>none)else none
def Qm0(T:Nat)(cs:List AV):Option (Option DP×AV) :=
 match Qbz ty 5 T with
 |some ls=>if(Q1 T ty).ok=true/\ls.length=(Q1 T ty).size then some (some (p.all (Q87 p cs 0 ls)),mk ty T (Q8N p cs 0 ls))else none
 |none=>match QkF ty T with
  |some ls=>if(Q1 T ty).ok=true/\ls.length=(Q1 T ty).size then some (some (p.all (Q87 p cs 0 ls)),mk ty T (Q8N p cs 0 ls))else none
  |none=>none
def Q6G(s:St):AV->Option (Nat×List AV)
 |.slc sz xs=>some (sz,xs)
 |.row id ep=>match s.ob[id]? with|some (.row _ sz _ e xs)=>if e=ep then some (sz,xs)else none|_=>none
 |.rowk id ep k=>match s.ob[id]? with|some (.row _ sz _ e xs)=>if e=ep then some (sz,p.cut xs 0 k)else none|_=>none
 |_=>none
def QmU(op:BinOp)(k:IntKind)(a b:Int):Option (Option DP×Value) :=
 match op with
 |.add=>some (some (p.inR k (p.add a b)),.int k (p.add a b))
 |.sub=>some (some (p.inR k (p.sub a b)),.int k (p.sub a b))
 |.mul=>some (some (p.inR k (p.mul a b)),.int k (p.mul a b))
 |.eql=>some (none,.bool (p.eqI a b))
 |.neq=>some (none,.bool (p.notB (p.eqI a b)))
 |.lss=>some (none,.bool (p.ltI a b))
 |.leq=>some (none,.bool (p.leI a b))
 |.gtr=>some (none,.bool (p.ltI b a))
 |.geq=>some (none,.bool (p.leI b a))
 |.and=>some (none,.int k (p.bits .and k a b))
 |.or=>some (none,.int k (p.bits .or k a b))
 |.xor=>some (none,.int k (p.bits .xor k a b))
 |.andNot=>some (none,.int k (p.bits .andNot k a b))
 |.quo=>some (some (p.all [p.nz b,p.inR k (p.quo a b)]),.int k (p.quo a b))
 |.rem=>some (some (p.all [p.nz b,p.inR k (p.rem a b)]),.int k (p.rem a b))
 |_=>none
def Qns(s:St)(x y:Operand):Option (List AV):=match ev s x,ev s y with
 |.slc _ xs,.val (.slice none _ _)=>some xs
 |_,_=>none
def QnW(s:St)(T:Nat)(op:BinOp):AV->AV->Option (Option DP×AV)
 |.val (.int k a),.val (.int k' b)=>match op with
  |.shl=>some (some (p.nn b),.val (.int k (p.shl k a b)))
  |.shr=>some (some (p.nn b),.val (.int k (p.shr a (p.minI (p.toI k.bits) b))))
  |op=>if k=k' then(QmU p op k a b).map fun(q,v)=>(q,.val v)else none
 |.val (.string a),.val (.string b)=>match op with
  |.eql=>some (none,.val (.bool (p.eqS a b)))
  |.neq=>some (none,.val (.bool (p.notB (p.eqS a b))))
  |.add=>some (some (p.catok a b),.val (.string (p.catS a b)))
  |.lss=>some (none,.val (.bool (p.ltS a b)))
  |_=>none
 |.val (.bool a),.val (.bool b)=>if(Q1 T ty).kd=5 then(match op with
  |.eql=>some (none,.val (.bool (p.eqB a b)))
  |.neq=>some (none,.val (.bool (p.notB (p.eqB a b))))
  |_=>none)else none
 |.val (.slice none _ _),.val (.slice none _ _)=>if(Q1 T ty).kd=2 then(match op with
  |.eql=>some (none,.val (.bool true))
  |.neq=>some (none,.val (.bool false))
  |_=>none)else none
 |.val (.pointer none),.val (.pointer none)=>if(Q1 T ty).kd=4 then(match op with
  |.eql=>some (none,.val (.bool true))
  |.neq=>some (none,.val (.bool false))
  |_=>none)else none
 |.ref _,.val (.pointer none)|.box _ _,.val (.pointer none)=>if(Q1 T ty).kd=4 then(match op with
  |.eql=>some (none,.val (.bool false))
  |.neq=>some (none,.val (.bool true))
  |_=>none)else none
 |.opt x,.val (.pointer none)=>if(Q1 T ty).kd=4 then(match op with
  |.eql=>some (none,.val (.bool (p.isN x)))
  |.neq=>some (none,.val (.bool (p.notB (p.isN x))))
  |_=>none)else none
 |.clo _ _ _ _,.val .nilFunc|.val (.func _ _ _),.val .nilFunc=>if(Q1 T ty).kd=7 then(match op with
  |.eql=>some (none,.val (.bool false))
  |.neq=>some (none,.val (.bool true))
  |_=>none)else none
 |.val .nilFunc,.val .nilFunc=>if(Q1 T ty).kd=7 then(match op with
  |.eql=>some (none,.val (.bool true))
  |.neq=>some (none,.val (.bool false))
  |_=>none)else none
 |x,.val (.slice none _ _)=>match Q6G p s x with
  |some (_,xs)=>if(Q1 T ty).kd=2 then(match op with
   |.eql=>some (some (p.more xs),.val (.bool false))
   |.neq=>some (some (p.more xs),.val (.bool true))
   |_=>none)else none
  |none=>none
 |_,_=>none
def eqC:AV->AV->Option (Srt×Bool)
 |.val (.int k a),.val (.int k' b)=>if k=k' then some (.int k,p.eqI a b)else none
 |.val (.bool a),.val (.bool b)=>some (.boo,p.eqB a b)
 |.val (.string a),.val (.string b)=>some (.str,p.eqS a b)
 |_,_=>none
def QcS:List AV->List AV->Option (List Srt×Bool)
 | [],[]=>some ([],true)
 |x::r,y::r'=>match eqC p x y,QcS r r' with
  |some (s,a),some (ss,b)=>some (s::ss,p.andB a b)
  |_,_=>none
 |_,_=>none
def Qic(s:St)(op:BinOp)(x y:Operand):Option (List Srt×Bool):=match ev s x,ev s y with
 |.agg cs,.agg ds=>match QcS p cs ds with
  |some (sh,b)=>match op with
   |.eql=>some (sh,b)
   |.neq=>some (sh,p.notB b)
   |_=>none
  |none=>none
 |_,_=>none
def Qb9(flds:List (Nat×Nat))(cs:List AV):List (Nat×AV)->Option (List AV)
 | []=>some cs
 |(i,x)::r=>match flds[i]? with
  |some (off,t)=>if x.live=true/\(Q1 t ty).ok=true/\x.cells.length=(Q1 t ty).size/\off+x.cells.length<=cs.length then Qb9 flds (setCells cs off x.cells) r else none
  |none=>none
def Q56(T sz:Nat):Bool:=(Q1 T ty).ok&&(Q1 T ty).sl&&(Q1 (Q1 T ty).elem ty).ok&&sz == (Q1 (Q1 T ty).elem ty).size&&sz != 0
def Qlp(T:Nat)(k:Int):Bool:=Nat.ble 100 (Q1 T ty).kd&&((Q1 (Q1 T ty).elem ty).ok&&(decide (0<=k)&&decide (k<((Q1 T ty).kd-100:Nat))))
def fOk(t:Nat):Bool:=(Q1 t ty).ok&&(Q1 t ty).size != 0
def Q2e(s:St):Op->Option (Option DP×AV)
 |.move x|.assign x=>some (none,evk s x)
 |.pick c a b=>match ev s c with
  |.val (.bool t)=>some (none,match t with|true=>evk s a|false=>evk s b)
  |_=>none
 |.build T parts=>if(Q1 T ty).ok=true/\(Q1 T ty).kd=1 then
   (Qb9 ty (Q1 T ty).flds ((Q1 T ty).zero.map .val) (parts.toList.map fun(i,x)=>(i,ev s x))).map fun cs=>(none,.agg cs)
  else if(Q1 T ty).ok=true/\100<=(Q1 T ty).kd/\(Q1 (Q1 T ty).elem ty).ok=true then
   (Qb9 ty ((List.range ((Q1 T ty).kd-100)).map fun i=>(i * (Q1 (Q1 T ty).elem ty).size,(Q1 T ty).elem)) ((Q1 T ty).zero.map .val) (parts.toList.map fun(i,x)=>(i,ev s x))).map fun cs=>(none,.agg cs)
  else none
 |.load T a=>match ev s a with
  |.ref cs=>Qm0 p ty T cs
  |.rptr id ep i off=>match s.ob[id]? with
   |some (.row _ _ _ e xs)=>if e=ep then Qm0 p ty T (p.drp (p.cel (p.at_ xs i)) off)else none
   |_=>none
  |x=>match Q7k s x with
   |some cs=>if(Q1 T ty).ok=true/\(if(Q1 T ty).agg then(Q1 T ty).size else 1)<=cs.length then some (none,mk ty T cs)else none
   |none=>none
 |.nilCheck x=>match ev s x with
  |.ref cs=>some (none,.ref cs)
  |.box id o=>some (none,.box id o)
  |.opt x=>some (some (p.hasR x),.ref (p.prf x))
  |.rptr id ep i off=>match s.ob[id]? with
   |some (.row _ _ _ e _)=>if e=ep then some (none,.rptr id ep i off)else none
   |_=>none
  |.val (.func (.func g) a c)=>some (none,.val (.func (.func g) a c))
  |.clo f id o t=>some (none,.clo f id o t)
  |_=>none
 |.binOp op T x y _=>QnW p ty s T op (ev s x) (ev s y)
 |.unOp op _ x=>match op,ev s x with
  |.not,.val (.bool b)=>some (none,.val (.bool (p.notB b)))
  |.neg,.val (.int k n)=>some (some (p.inR k (p.sub 0 n)),.val (.int k (p.sub 0 n)))
  |_,_=>none
 |.convert src dst x=>if(Q1 src ty).ok then(match ev s x with
  |.val (.int _ n)=>match(Q1 dst ty).kind with
   |some k=>some (none,.val (.int k (p.wrap k n)))
   |none=>if(Q1 dst ty).kd=6 then some (none,.val (.string (p.encS n)))else none
  |.val (.string b)=>if(Q1 dst ty).kd=6 then some (none,.val (.string b))else none
  |v=>match Q6G p s v with
   |some (1,xs)=>if(Q1 dst ty).kd=6/\(Q1 src ty).sl=true then(match(Q1 (Q1 src ty).elem ty).kind with
    |some .u8=>some (some (p.isB xs),.val (.string (p.strB xs)))
    |some .i32=>some (some (p.isR xs),.val (.string (p.strR xs)))
    |_=>none)else none
   |_=>none)else none
 |.makeFunc fn first captured=>if first.isEmpty/\captured.isEmpty then some (none,.val (.func fn #[] #[]))else(match fn,first.toList,captured.toList with
  |.func g,[x],[]=>(match ev s x with
   |.box id o=>some (none,.clo g id o true)
   |_=>none)
  |.func g,[],[x]=>(match ev s x with
   |.box id o=>some (none,.clo g id o false)
   |_=>none)
  |_,_,_=>none)
 |.fieldAddr T x f=>match(Q1 T ty).flds[f]? with
  |some (off,t)=>match ev s x with
   |.ref cs=>if fOk ty t then some (none,.ref (p.drp cs off))else none
   |.box id o=>if fOk ty t then some (none,.box id (o+off))else none
   |.rptr id ep i o=>match s.ob[id]? with
    |some (.row _ _ _ e _)=>if e=ep/\fOk ty t=true then some (none,.rptr id ep i (o+off))else none
    |_=>none
   |_=>none
  |none=>none
 |.field T x f=>match(Q1 T ty).flds[f]?,ev s x with
  |some (off,t),.agg cs=>if(Q1 t ty).ok=true/\off+(if(Q1 t ty).agg then(Q1 t ty).size else 1)<=cs.length then some (none,mk ty t (cs.drop off))else none
  |_,_=>none
 |.indexAddr T x i=>match ev s i with
  |.val (.int _ k)=>match ev s x with
   |.slc sz xs=>if Q56 ty T sz=true then some (some (p.inb k (p.len xs)),.ref (p.cel (p.at_ xs k)))else none
   |.row id ep=>match s.ob[id]? with
    |some (.row _ sz _ e xs)=>if e=ep/\Q56 ty T sz=true then some (some (p.inb k (p.len xs)),.rptr id ep k 0)else none
    |_=>none
   |.box id o=>if Qlp ty T k then some (none,.box id (o+k.toNat * (Q1 (Q1 T ty).elem ty).size))else none
   |.ref cs=>if Qlp ty T k then some (none,.ref (p.drp cs (k.toNat * (Q1 (Q1 T ty).elem ty).size)))else none
   |_=>none
  |_=>none
 |.index T x i=>match ev s x,ev s i with
  |.agg cs,.val (.int _ k) =>
   if 100<=(Q1 T ty).kd/\(Q1 (Q1 T ty).elem ty).ok=true/\0<=k/\k<((Q1 T ty).kd-100:Nat)/\k.toNat * (Q1 (Q1 T ty).elem ty).size+(if(Q1 (Q1 T ty).elem ty).agg then(Q1 (Q1 T ty).elem ty).size else 1)<=cs.length then
    some (none,mk ty (Q1 T ty).elem (cs.drop (k.toNat * (Q1 (Q1 T ty).elem ty).size)))else none
  |.val (.string b),.val (.int _ k)=>if(Q1 T ty).kd=6 then some (some (p.inb k (p.szS b)),.val (.int .u8 (p.idxS b k)))else none
  |_,_=>none
 |.slice T x lo hi none=>match ev s x with
  |.val (.string b)=>if(Q1 T ty).kd=6 then(match lo.map (ev s),hi.map (ev s)with
   |none,none=>some (none,.val (.string b))
   |some (.val (.int _ l)),none=>some (some (p.cutok l (p.szS b) (p.szS b)),.val (.string (p.cutS b l (p.szS b))))
   |none,some (.val (.int _ h))=>some (some (p.cutok 0 h (p.szS b)),.val (.string (p.cutS b 0 h)))
   |some (.val (.int _ l)),some (.val (.int _ h))=>some (some (p.cutok l h (p.szS b)),.val (.string (p.cutS b l h)))
   |_,_=>none)else none
  |.slc sz xs=>if Q56 ty T sz=true then(match lo.map (ev s),hi.map (ev s)with
   |none,none=>some (none,.slc sz xs)
   |some (.val (.int _ l)),none=>some (some (p.cutok l (p.len xs) (p.len xs)),.slc sz (p.cut xs l (p.len xs)))
   |none,some (.val (.int _ h))=>some (some (p.cutok 0 h (p.len xs)),.slc sz (p.cut xs 0 h))
   |some (.val (.int _ l)),some (.val (.int _ h))=>some (some (p.cutok l h (p.len xs)),.slc sz (p.cut xs l h))
   |_,_=>none)else none
  |.row id ep=>match s.ob[id]? with
   |some (.row _ sz _ e xs)=>if e=ep/\Q56 ty T sz=true then(match lo.map (ev s),hi.map (ev s)with
    |none,some (.val (.int _ h))=>some (some (p.cutok 0 h (p.len xs)),.rowk id ep h)
    |_,_=>none)else none
   |_=>none
  |_=>none
 |.extract t i=>match ev s t with
  |.tup vs=>(vs[i]?).map fun x=>(none,x)
  |_=>none
 |.call { callee:=.builtin .len,args,argTypes }=>match args.toList,argTypes.toList with
  | [x],T::_=>match ev s x with
   |.val (.string b)=>if(Q1 T ty).kd=6 then some (none,.val (.int .i64 (p.szS b)))else none
   |.val (.slice none 0 0)=>if(Q1 T ty).sl=true then some (none,.val (.int .i64 0))else none
   |v=>match Q6G p s v with
    |some (_,xs)=>if(Q1 T ty).sl=true then some (none,.val (.int .i64 (p.len xs)))else none
    |none=>none
  |_,_=>none
 |.call { callee:=.builtin .min,args,.. }=>match args.toList.map (ev s)with
  | [.val (.int k a),.val (.int _ b)]=>some (none,.val (.int k (p.minI a b)))
  |_=>none
 |.call { callee:=.builtin .max,args,.. }=>match args.toList.map (ev s)with
  | [.val (.int k a),.val (.int _ b)]=>some (none,.val (.int k (p.maxI a b)))
  |_=>none
 |_=>none
def Q3M(f:List Ob->AV->Option (AV×List Ob)):List Ob->List AV->Option (List AV×List Ob)
 |ob,[]=>some ([],ob)
 |ob,x::xs=>match f ob x with
  |some (y,ob1)=>match Q3M f ob1 xs with
   |some (ys,ob2)=>some (y::ys,ob2)
   |none=>none
  |none=>none
def frz(keep:Bool):Nat->List Ob->AV->Option (AV×List Ob)
 |0,_,_=>none
 |n+1,ob,x=>match x with
  |.val v=>some (.val v,ob)
  |.kb t=>some (.val (.bool t),ob)
  |.slc sz xs=>some (.slc sz xs,ob)
  |.ref cs=>some (.ref cs,ob)
  |.opt x=>some (.opt x,ob)
  |.agg cs=>(Q3M (frz keep n) ob cs).map fun(ys,ob)=>(.agg ys,ob)
  |.row id ep=>match ob[id]? with
   |some (.row et sz _ e xs)=>if e=ep then some (.slc sz xs,ob.set id (.row et sz true e xs))else none
   |_=>none
  |.rowk id ep k=>match ob[id]? with
   |some (.row et sz _ e xs)=>if e=ep then some (.slc sz (p.cut xs 0 k),ob.set id (.row et sz true e xs))else none
   |_=>none
  |.box id off=>if keep then some (.box id off,ob)else(match ob[id]? with
   |some (.box cs)=>match Q3M (frz keep n) ob cs with
    |some (cs',ob')=>match ob'[id]? with
     |some (.box _)=>some (.ref (cs'.drop off),ob'.set id (.fbox cs'))
     |_=>none
    |none=>none
   |some (.fbox cs)=>some (.ref (cs.drop off),ob)
   |_=>none)
  |.iter id=>if keep then some (.iter id,ob)else none
  |.clo f id o t=>if keep then some (.clo f id o t,ob)else none
  |_=>none
def QcK:AV->List Nat
 |.box id _=>[id]
 |.row id _=>[id]
 |.rowk id _ _=>[id]
 |.iter id=>[id]
 |.clo _ id _ _=>[id]
 |.agg cs=>cs.flatMap fun|.box id _=>[id]|.row id _=>[id]|.rowk id _ _=>[id]|.iter id=>[id]|.clo _ id _ _=>[id]|_=>[]
 |_=>[]
def Qmr:Ob->List Nat
 |.box cs=>cs.flatMap QcK
 |_=>[]
def Q9V(ob:List Ob):Nat->List Nat->List Nat->List Nat
 |0,acc,_=>acc
 |_,acc,[]=>acc
 |n+1,acc,i::r=>if acc.contains i then Q9V ob n acc r else Q9V ob n (acc++[i]) (Qmr (ob.getD i .gone)++r)
def Q1c(i:Nat):List Nat->Option Nat
 | []=>none
 |j::r=>if i=j then some 0 else(Q1c i r).map (· + 1)
def QgF(ρ:List (Option Nat))(i:Nat):Option Nat:=(List.range ρ.length).find? fun j=>ρ[j]? == some (some i)
def Q1N(ρ:List (Option Nat)):Bool:=(List.range ρ.length).all fun j=>match ρ[j]? with
 |some (some i)=>QgF ρ i == some j
 |_=>true
def inC(ob:List Ob)(ρ:List Nat):AV->AV
 |.box i o=>match Q1c i ρ with
  |some j=>.box j o
  |none=>.dead
 |.row i e=>match Q1c i ρ with
  |some j=>(match ob[i]? with
   |some (.row _ _ _ e2 _)=>if e2=e then .row j 0 else .dead
   |_=>.dead)
  |none=>.dead
 |.iter i=>match Q1c i ρ with
  |some j=>.iter j
  |none=>.dead
 |.clo f i o t=>match Q1c i ρ with
  |some j=>.clo f j o t
  |none=>.dead
 |.val v=>.val v
 |.slc sz xs=>.slc sz xs
 |.ref cs=>.ref cs
 |.opt x=>.opt x
 |.kb b=>.kb b
 |_=>.dead
def inA(ob:List Ob)(ρ:List Nat):AV->AV
 |.agg cs=>.agg (cs.map (inC ob ρ))
 |x=>inC ob ρ x
def inO(ob:List Ob)(ρ:List Nat):Ob->Ob
 |.box cs=>.box (cs.map (inC ob ρ))
 |.row et sz fz _ xs=>.row et sz fz 0 xs
 |x=>x
def Qn2(ob:List Ob)(i:Nat):Nat:=match ob[i]? with
 |some (.row _ _ _ e _)=>e
 |_=>0
def Q2t(ρ:List Nat)(n j:Nat):Nat:=if j<ρ.length then ρ.getD j 0 else n+(j-ρ.length)
def Q8Q(ob:List Ob)(ρ:List Nat)(j:Nat):Nat:=match ρ[j]? with
 |some i=>Qn2 ob i
 |none=>0
def QjH(ob:List Ob)(ρ:List Nat):AV->AV
 |.box j o=>.box (Q2t ρ ob.length j) o
 |.row j e=>.row (Q2t ρ ob.length j) (Q8Q ob ρ j+e)
 |.rowk j e k=>.rowk (Q2t ρ ob.length j) (Q8Q ob ρ j+e) k
 |.rptr j e i o=>.rptr (Q2t ρ ob.length j) (Q8Q ob ρ j+e) i o
 |.iter j=>.iter (Q2t ρ ob.length j)
 |.clo f j o t=>.clo f (Q2t ρ ob.length j) o t
 |x=>x
def Qkx(ob:List Ob)(ρ:List Nat):AV->AV
 |.agg cs=>.agg (cs.map (QjH ob ρ))
 |x=>QjH ob ρ x
def Qgz(ob:List Ob)(ρ:List Nat):AV->AV
 |.tup xs=>.tup (xs.map (Qkx ob ρ))
 |x=>Qkx ob ρ x
def Qex(ob:List Ob)(ρ:List Nat)(j:Nat):Ob->Ob
 |.box cs=>.box (cs.map (QjH ob ρ))
 |.row et sz fz e xs=>.row et sz fz (Q8Q ob ρ j+e) xs
 |.iter (.mit m es sn c)=>.iter (.mit (Q2t ρ ob.length m) es sn c)
 |x=>x
def Q4t(ob:List Ob)(ρ:List Nat)(ob':List Ob):List Ob :=
 (List.range (ob.length+(ob'.length-ρ.length))).map fun id=>match Q1c id ρ with
  |some j=>Qex ob ρ j (ob'.getD j .gone)
  |none=>if id<ob.length then ob.getD id .gone else Qex ob ρ (ρ.length+(id-ob.length)) (ob'.getD (ρ.length+(id-ob.length)) .gone)
def there(ob:List Ob)(ρ:List Nat):Bool:=ρ.all fun i=>match ob[i]? with
 |some .gone|none=>false
 |some (.iter (.mit _ _ _ _))=>false
 |_=>true
def Qk1(sz:Nat)(xs:List AV):Bool:=xs.all fun x=>x.cells.length == sz
def QaP(s:St)(E U:Nat)(y:AV):Option (Nat×List AV) :=
 match y with
 |.val (.string b)=>if(Q1 U ty).kd=6/\(Q1 E ty).kind=some .u8 then some (1,p.bytesS b)else none
 |.val (.slice none 0 0)=>if(Q1 U ty).sl=true then some ((Q1 E ty).size,[])else none
 |v=>if(Q1 U ty).sl=true then Q6G p s v else none
def Q2u(K:St->Tree)(o:Oper)(s:St)(op:Op):Tree :=
 match Q2e p ty s op with
 |some (none,v)=>K (St.put s o.dst v)
 |some (some q,v)=>.need q (K (St.put s o.dst v))
 |none=>match op with
  |.convert src dst x=>match ev s x with
   |.val (.string b)=>if(Q1 src ty).kd=6/\(Q1 dst ty).sl=true/\(Q1 (Q1 dst ty).elem ty).kind=some .u8 then .need (p.szok b) (K (St.put s o.dst (.slc 1 (p.bytesS b))))else .stuck 19
   |.row id ep=>match s.ob[id]? with
    |some (.row et sz false e xs)=>if e=ep/\src=dst/\sz=1/\(Q1 src ty).sl=true/\(Q1 (Q1 src ty).elem ty).kind=some .u8 then .need (p.more xs) (K (St.put ⟨s.tm,s.ob.set id (.row et sz true (e+1) xs)⟩ o.dst (.slc 1 xs)))else .stuck 23
    |_=>.stuck 24
   |_=>.stuck 21
  |_=>.stuck 22
def Qab(s:St):Operand->St
 |.tmp t=>match lk t s.tm with
  |.rowk id ep k=>match s.ob[id]? with
   |some (.row et sz false e xs)=>if e=ep then⟨(t,.row id (e+1))::s.tm,s.ob.set id (.row et sz false (e+1) (p.cut xs 0 k))⟩else s
   |_=>s
  |_=>s
 |_=>s
def Qnc(s:St):Operand->St
 |.tmp t=>match lk t s.tm with
  |.row id ep=>match frz p true 9 s.ob (.row id ep)with
   |some (v,ob)=>⟨(t,v)::s.tm,ob⟩
   |none=>s
  |.rowk id ep k=>match frz p true 9 s.ob (.rowk id ep k)with
   |some (v,ob)=>⟨(t,v)::s.tm,ob⟩
   |none=>s
  |_=>s
 |_=>s
def Q7P(K:St->Tree)(o:Oper)(s:St)(T:Nat)(a x:Operand):Tree :=
 match ev s a with
  |.box id off=>match s.ob[id]? with
   |some (.box c)=>if(ev s x).live=true/\(Q1 T ty).ok=true/\(ev s x).cells.length=(Q1 T ty).size/\off+(ev s x).cells.length<=c.length then
     K (St.put ⟨s.tm,s.ob.set id (.box (setCells c off (ev s x).cells))⟩ o.dst .dead)else .stuck 1
   |_=>.stuck 2
  |.rptr id ep i off=>match s.ob[id]? with
   |some (.row et sz false e xs)=>if e=ep/\et≠Q4e/\(ev s x).pur=true/\(Q1 T ty).ok=true/\(ev s x).cells.length=(Q1 T ty).size/\(ev s x).cells.length≠0/\off+(ev s x).cells.length<=sz then
     K (St.put ⟨s.tm,s.ob.set id (.row et sz false e (p.setx xs i off (ev s x).cells))⟩ o.dst .dead)else .stuck 90
   |_=>.stuck 91
  |_=>.stuck 3
def Q6E(cs:Nat->List AV->List Ob->Option (AV×List Ob))(o:Oper)(g:Nat)(args:List AV)(ob:List Ob):Option (AV×List Ob) :=
 match cs g args ob with
 |some r=>some r
 |none=>match o.dst with
  |some d=>cs (1000000+d) args ob
  |none=>none
def QmT(g:Nat):Bool:=g == 999999||g == 329||g == 999999||g == 999999
def QkY:Operand->Bool
 |.func g=>QmT g
 |.const (.func (.func g) _ _)=>QmT g
 |_=>false
def Qar(f:Operand)(ob:List Ob)(xs:List AV):Option (List AV×List Ob):=if QkY f=true then(if xs.all AV.live=true then some (xs,ob)else none)else Q3M (frz p true 9) ob xs
def Qnf(f:Operand)(tys:Array TypeId):Bool:=match f with
 |.tmp _=>Nat.ble tys.size 1
 |_=>false
def Qcr(vs:List AV)(id o:Nat)(t:Bool):List AV:=match t with
 |true=>.box id o::vs
 |false=>vs++[.box id o]
def QlH:AV->Option Srt
 |.val (.int k _)=>some (.int k)
 |.val (.bool _)=>some .boo
 |.val (.string _)=>some .str
 |_=>none
def shA:List AV->Option (List Srt)
 | []=>some []
 |x::r=>match QlH x,shA r with
  |some s,some ss=>some (s::ss)
  |_,_=>none
def Qmj(s:St):AV->Option (List (AV×AV))
 |.val (.map none)=>some []
 |.iter id=>match s.ob[id]? with
  |some (.iter (.map es))=>some es
  |_=>none
 |_=>none
def Qd5:AV->Bool
 |.agg _=>true
 |_=>false
def Q7q(kc:AV)(f:Nat->AV->Tree)(n:Tree):Nat->List (AV×AV)->Tree
 |_,[]=>n
 |j,(k,v)::r=>if Qd5 k=Qd5 kc then(match QcS p kc.cells k.cells with
  |some (_,b)=>.br b (f j v) (Q7q kc f n (j+1) r)
  |none=>.stuck 97)else .stuck 99
def QbR(KT:Nat)(k:AV)(t:Tree):Tree:=match k with
 |.agg cs=>match shA cs with
  |some sh=>if(Q1 KT ty).kd=1 then .askK KT sh t else .stuck 92
  |none=>.stuck 93
 |.val (.string _)=>if(Q1 KT ty).kd=6 then t else .stuck 94
 |.val (.int _ _)=>if(Q1 KT ty).kd=3 then t else .stuck 95
 |_=>.stuck 96
def QjF:Value:=.bool false
def Qbw(T:Nat):Nat:=(Q1 T ty).key
def QdN(c:Bool)(v:AV)(b:Bool):AV:=if c then .tup [v,.val (.bool b)]else v
def QmZ(E:Nat)(f:AV->Tree):Tree :=
 if(Q1 E ty).agg=true/\(Q1 E ty).size≠1 then f (.agg ((Q1 E ty).zero.map .val))else match(Q1 E ty).agg with
  |false=>f (.val ((Q1 E ty).zero.headD QjF))
  |true=>.stuck 84
def Q7R(K:St->Tree)(o:Oper)(s:St)(T:Nat)(x i:Operand)(c:Bool):Tree :=
 match Qmj s (ev s x)with
 |some es=>if(Q1 T ty).ok=true/\(Q1 T ty).kd=8/\(Q1 (Q1 T ty).elem ty).ok=true/\(Q1 (Qbw ty T) ty).ok=true then
   QbR ty (Qbw ty T) (ev s i) (.look (ev s i) es (fun _ v=>K (St.put s o.dst (QdN c v true))) (QmZ ty (Q1 T ty).elem fun z=>K (St.put s o.dst (QdN c z false))))else .stuck 85
 |none=>.stuck 86
def Qah(K:St->Tree)(o:Oper)(s:St)(T:Nat)(m i x:Operand):Tree :=
 match ev s m with
 |.iter id=>match s.ob[id]? with
  |some (.iter (.map es))=>if(Q1 T ty).ok=true/\(Q1 T ty).kd=8/\(Q1 (Qbw ty T) ty).ok=true/\(ev s x).pur=true then
    QbR ty (Qbw ty T) (ev s i) (.look (ev s i) es (fun j _=>K (St.put ⟨s.tm,s.ob.set id (.iter (.map (p.setE es j (ev s i,ev s x))))⟩ o.dst .dead)) (K (St.put ⟨s.tm,s.ob.set id (.iter (.map (p.appE es (ev s i,ev s x))))⟩ o.dst .dead)))else .stuck 87
  |_=>.stuck 88
 |_=>.stuck 89
def aop(cs:Nat->List AV->List Ob->Option (AV×List Ob))(K:St->Tree)(o:Oper)(s:St):Tree :=
 match o.op with
 |.alloc T=>if(Q1 T ty).ok then K (St.put ⟨s.tm,s.ob++[.box ((Q1 T ty).zero.map .val)]⟩ o.dst (.box s.ob.length 0))else .stuck 50
 |.box _ x=>if(ev s x).live then K (St.put ⟨s.tm,s.ob++[.box (ev s x).cells]⟩ o.dst (.box s.ob.length 0))else .stuck 51
 |.assign x=>Q2u p ty K o (Qab p s x) (.assign x)
 |.store T a x=>Q7P p ty K o (Qab p s x) T a x
 |.makeSlice T l c=>match ev s l,ev s c with
  |.val (.int _ a),.val (.int _ n)=>if Q56 ty T (Q1 (Q1 T ty).elem ty).size=true then
    .need (p.all [p.cutok 0 a 0,p.cutok 0 n 1000000]) (K (St.put ⟨s.tm,s.ob++[.row (Q1 T ty).elem (Q1 (Q1 T ty).elem ty).size false 0 []]⟩ o.dst (.row s.ob.length 0)))else .stuck 67
  |_,_=>.stuck 68
 |.makeMap _ none=>K (St.put ⟨s.tm,s.ob++[.iter (.map [])]⟩ o.dst (.iter s.ob.length))
 |.lookup T x i c=>Q7R ty K o s T x i c
 |.mapUpdate T m i x=>Qah p ty K o s T m i x
 |.buildSlice T len parts =>
  let E:=(Q1 T ty).elem
  match Q3M (frz p true 9) s.ob (parts.toList.map fun x=>ev s x.2)with
  |some (xs,ob) =>
   if Q9n E xs=true/\Q56 ty T (Q1 E ty).size=true/\Qk1 (Q1 E ty).size xs=true/\xs.all AV.pur=true/\len<=4000/\(Q1 E ty).size<=4000/\parts.toList.map (·.1)=List.range len then
    K (St.put ⟨s.tm,ob++[.row E (Q1 E ty).size false 0 xs]⟩ o.dst (.row ob.length 0))else .stuck 4
  |none=>.stuck 5
 |.call { callee:=.builtin .append,args,argTypes }=>match args.toList,argTypes.toList with
  | [x,y],[T,U] =>
   let E:=(Q1 T ty).elem
   match QaP p ty s E U (ev s y)with
   |some (sz,news)=>if Q9n E news=true/\Q56 ty T sz=true then(match ev s x with
    |.val (.slice none 0 0)=>.need (p.bnd [] news) (K (St.put ⟨s.tm,s.ob++[.row E sz false 1 (p.app [] news)]⟩ o.dst (.row s.ob.length 1)))
    |.row id ep=>match s.ob[id]? with
     |some (.row et sz' fz e xs)=>if e=ep/\et=E/\sz'=sz then
       .need (p.bnd xs news) (K (St.put ⟨s.tm,s.ob.set id (.row et sz' fz (e+1) (p.app xs news))⟩ o.dst (.row id (e+1))))else .stuck 6
     |_=>.stuck 7
    |.rowk id ep k=>match s.ob[id]? with
     |some (.row et sz' false e xs)=>if e=ep/\et=E/\sz'=sz then
       .need (p.bnd (p.cut xs 0 k) news) (K (St.put ⟨s.tm,s.ob.set id (.row et sz' false (e+1) (p.app (p.cut xs 0 k) news))⟩ o.dst (.row id (e+1))))else .stuck 8
     |_=>.stuck 9
    |_=>.stuck 10)else .stuck 11
   |none=>.stuck 12
  |_,_=>.stuck 13
 |.call { callee:=.value f,args,argTypes }=>match ev s f with
  |.val (.func (.func g) ca cb)=>if ca.size=0/\cb.size=0 then(match Qar p f s.ob (args.toList.map (ev s))with
   |some (vs,ob) =>
    let ρ:=Q9V ob 60 [] (vs.flatMap QcK)
    if Q1N (ρ.map some)=true/\there ob ρ=true/\(QkY f=true\/argTypes.toList.any (Qna ty)=true\/ρ.isEmpty=true)then(match Q6E cs o g (vs.map (inA ob ρ)) (ρ.map fun i=>inO ob ρ (ob.getD i .gone))with
    |some (.tup [.dead,.val v],_)=>.pan g (vs.map (inA ob ρ)) (ρ.map fun i=>inO ob ρ (ob.getD i .gone)) v
    |some (.tup [.dead,.val v,.val (.bool c),res],ob')=>.br c (if ρ.length<=ob'.length then .call g (vs.map (inA ob ρ)) (ρ.map fun i=>inO ob ρ (ob.getD i .gone)) res ob' (K (St.put ⟨s.tm,Q4t ob ρ ob'⟩ o.dst (Qgz ob ρ res)))else .stuck 61) (.pan g (vs.map (inA ob ρ)) (ρ.map fun i=>inO ob ρ (ob.getD i .gone)) v)
    |some (res,ob')=>if ρ.length<=ob'.length then .call g (vs.map (inA ob ρ)) (ρ.map fun i=>inO ob ρ (ob.getD i .gone)) res ob' (K (St.put ⟨s.tm,Q4t ob ρ ob'⟩ o.dst (Qgz ob ρ res)))else .stuck 61
    |none=>.stuck (1000+g))else .stuck 60
   |none=>.stuck 14)else .stuck 62
  |.clo g cid co ct=>match Qar p f s.ob (args.toList.map (ev s))with
   |some (vs,ob) =>
    let ρ:=Q9V ob 60 [] ((Qcr vs cid co ct).flatMap QcK)
    if Q1N (ρ.map some)=true/\there ob ρ=true/\Qnf f argTypes=true then(match Q6E cs o g ((Qcr vs cid co ct).map (inA ob ρ)) (ρ.map fun i=>inO ob ρ (ob.getD i .gone))with
    |some (res,ob')=>if ρ.length<=ob'.length then .call g ((Qcr vs cid co ct).map (inA ob ρ)) (ρ.map fun i=>inO ob ρ (ob.getD i .gone)) res ob' (K (St.put ⟨s.tm,Q4t ob ρ ob'⟩ o.dst (Qgz ob ρ res)))else .stuck 66
    |none=>.stuck (1000+g))else .stuck 65
   |none=>.stuck 64
  |_=>.stuck 15
 |.range T x=>match ev s x with
  |.val (.string b)=>if(Q1 T ty).kd=6 then K (St.put ⟨s.tm,s.ob++[.iter (.str b 0)]⟩ o.dst (.iter s.ob.length))else .stuck 52
  |.iter id=>match s.ob[id]? with
   |some (.iter (.map es))=>if(Q1 T ty).kd=8 then K (St.put ⟨s.tm,s.ob++[.iter (.mit id es [] none)]⟩ o.dst (.iter s.ob.length))else .stuck 53
   |_=>.stuck 54
  |_=>.stuck 16
 |.next it true=>match ev s it with
  |.iter id=>match s.ob[id]? with
   |some (.iter (.str b pos))=>.br (p.itmore b pos)
     (K (St.put ⟨s.tm,s.ob.set id (.iter (.str b (p.itp b pos)))⟩ o.dst (.tup [.kb true,.val (.int .i64 (p.toI pos)),.val (.int .i32 (p.itr b pos))])))
     (K (St.put s o.dst (.tup [.kb false])))
   |_=>.stuck 17
  |_=>.stuck 18
 |.next it false=>match ev s it with
  |.iter id=>match s.ob[id]? with
   |some (.iter (.mit m es seen _))=>match s.ob[m]? with
    |some (.iter (.map es2))=>.nxt (p.samE es es2) es2 seen (fun j q=>K (St.put ⟨s.tm,s.ob.set id (.iter (.mit m es (p.appN seen j) (some (j,q))))⟩ o.dst (.tup [.kb true,q.1,q.2]))) (K (St.put s o.dst (.tup [.kb false])))
    |_=>.stuck 55
   |_=>.stuck 56
  |_=>.stuck 57
 |.entry it=>match ev s it with
  |.iter id=>match s.ob[id]? with
   |some (.iter (.mit m es _ (some (j,q))))=>match s.ob[m]? with
    |some (.iter (.map es2))=>.need (p.samE es es2) (.prop (p.isE es2 j q) (K (St.put s o.dst (.tup [q.1,q.2]))))
    |_=>.stuck 58
   |_=>.stuck 59
  |_=>.stuck 63
 |.binOp op T x y z=>match Qns s x y with
  |some xs=>if(Q1 T ty).kd=2 then(match op with
   |.eql=>.either (p.emp xs) (K (St.put s o.dst (.val (.bool true)))) (K (St.put s o.dst (.val (.bool false))))
   |.neq=>.either (p.emp xs) (K (St.put s o.dst (.val (.bool false)))) (K (St.put s o.dst (.val (.bool true))))
   |_=>.stuck 80)else .stuck 81
  |none=>match Qic p s op x y with
   |some (sh,b)=>.ask T sh (K (St.put s o.dst (.val (.bool b))))
   |none=>Q2u p ty K o s (.binOp op T x y z)
 |.slice T x (some lo) hi m=>Q2u p ty K o (Qnc p s x) (.slice T x (some lo) hi m)
 |op=>Q2u p ty K o s op
inductive OT where
 |nil
 |cons (i:Nat) (r:OT)
 |fork (a b:OT)
def OT.of:List Nat->OT
 | []=>.nil
 |i::r=>.cons i (OT.of r)
def OT.or(t:OT)(n:Nat):OT:=match t with
 |.nil=>OT.of (List.range n)
 |t=>t
def Q4m(cs:Nat->List AV->List Ob->Option (AV×List Ob))(ops:List Oper)(K:St->Tree):OT->St->Tree
 |.nil,s=>K s
 |.fork a b,s=>.both (Q4m cs ops K a s) (Q4m cs ops K b s)
 |.cons i rest,s=>match ops[i]? with
  |none=>.stuck 30
  |some o=>match o.guard with
   |none=>aop p ty cs (Q4m cs ops K rest) o s
   |some (j,want)=>match(ops[j]?).bind (·.dst)with
    |none=>.stuck 31
    |some d=>match lk d s.tm with
     |.kb b=>match b,want with
      |true,true=>aop p ty cs (Q4m cs ops K rest) o s
      |false,false=>aop p ty cs (Q4m cs ops K rest) o s
      |_,_=>Q4m cs ops K rest (s.put o.dst (.tup []))
     |.val (.bool b)=>match want with
      |true=>.br b (aop p ty cs (Q4m cs ops K rest) o (s.put (some d) (.kb true))) (Q4m cs ops K rest ((s.put (some d) (.kb false)).put o.dst (.tup [])))
      |false=>.br b (Q4m cs ops K rest ((s.put (some d) (.kb true)).put o.dst (.tup []))) (aop p ty cs (Q4m cs ops K rest) o (s.put (some d) (.kb false)))
     |.tup []=>Q4m cs ops K rest (s.put o.dst (.tup []))
     |_=>.stuck 32
def QU(cs:Nat->List AV->List Ob->Option (AV×List Ob))(ord:Nat->OT):Code->(Ex->St->Tree)->St->Tree
 |.skip,K,s=>K .normal s
 |.region id ops draw,K,s=>Q4m p ty cs ops.toList (K .normal) (if draw then(ord id).or ops.size else OT.of (List.range ops.size)) s
 |.seq a b,K,s=>QU cs ord a (fun e s=>match e with|.normal=>QU cs ord b K s|.exit i=>K (.exit i) s|.ret=>K .ret s|.pan v=>K (.pan v) s) s
 |.cond c a b,K,s=>match c with
  |.tmp t=>match lk t s.tm with
   |.kb true=>QU cs ord a K s
   |.kb false=>QU cs ord b K s
   |.val (.bool x)=>.br x (QU cs ord a K (s.put (some t) (.kb true))) (QU cs ord b K (s.put (some t) (.kb false)))
   |_=>.stuck 40
  |.const (.bool true)=>QU cs ord a K s
  |.const (.bool false)=>QU cs ord b K s
  |_=>.stuck 41
 |.block id c,K,s=>QU cs ord c (fun e s=>match e with|.exit i=>if i=id then K .normal s else K (.exit i) s|.normal=>K .normal s|.ret=>K .ret s|.pan v=>K (.pan v) s) s
 |.loop c,K,s=>.loop c s K
 |.exit i,K,s=>K (.exit i) s
 |.ret,K,s=>K .ret s
 |_,_,_=>.stuck 42
def Q6I(s:St):ResultVar->Option AV
 |.tmp t=>match lk t s.tm with|.kb b=>some (.val (.bool b))|.dead=>none|x=>some x
 |.cell t T=>match Q7k s (lk t s.tm)with
  |some cs=>if(Q1 T ty).ok=true/\(if(Q1 T ty).agg then(Q1 T ty).size else 1)<=cs.length then some (mk ty T cs)else none
  |none=>none
def Q3s:List (Option AV)->Option (List AV)
 | []=>some []
 |some x::r=>(Q3s r).map (x :: ·)
 |none::_=>none
def Q55(keep:Bool)(rs:List ResultVar)(s:St):Option (AV×List Ob) :=
 match Q3s (rs.map (Q6I ty s))with
 |some [x]=>frz p keep 9 s.ob x
 |some xs=>(Q3M (frz p keep 9) s.ob xs).map fun(ys,ob)=>(.tup ys,ob)
 |none=>none
def Q5o(keep:Bool)(rs:List ResultVar)(e:Ex)(s:St):Tree :=
 match e with
 |.exit _=>.stuck 70
 |.pan v=>.leaf (.pan v) s
 |_=>match Q55 p ty keep rs s with
  |some (r,ob)=>.leaf .ret ⟨[(0,r)],ob⟩
  |none=>.stuck 71
end
end
section
open Go.RowKit Go.Lib
def Q2K:AV->UInt8
 |.val (.int _ n)=>UInt8.ofNat n.toNat
 |_=>0
def intOf:AV->Int
 |.val (.int _ n)=>n
 |_=>0
def Q8M:AV->Bool
 |.val (.bool b)=>b
 |_=>false
def Qdc:AV->ByteArray
 |.val (.string b)=>b
 |_=>⟨#[]⟩
def Q3z:AV->List AV
 |.slc _ xs=>xs
 |_=>[]
def Qfs:AV->List AV
 |.ref cs=>cs
 |.opt x=>Qfs x
 |_=>[]
def Q8z:AV->Bool
 |.val (.pointer none)=>true
 |.opt x=>Q8z x
 |_=>false
def QnK:AV->AV
 |.opt x=>x
 |x=>x
def Q5K:AV->Prop
 |.val (.pointer none)=>True
 |.ref _=>True
 |.opt x=>Q5K x
 |_=>False
def Q3R:List DP->Prop
 | []=>True
 |q::r=>q.q/\Q3R r
def Q9x:AV->Bool
 |.val (.pointer none)=>true
 |.ref _=>true
 |.opt x=>Q9x x
 |_=>false
theorem Q94(x:AV):Q9x x=true↔Q5K x:=by
 fun_induction Q9x x<;>simp_all [Q5K]
def Qge:AV->Bool
 |.val (.int .u8 n)=>decide (0<=n)&&decide (n<256)
 |_=>false
def Q6J:List AV->Option (List Value)
 | []=>some []
 |.val v::r=>if v.oneCell' then(Q6J r).map (v :: ·)else none
 |_::_=>none
theorem QgU(x:AV):Qge x=true↔∃n:UInt8,x=.val (.int .u8 n.toNat):=by
 constructor
 ·intro h
  unfold Qge at h;split at h
  ·rename_i n
   simp only[Bool.and_eq_true,decide_eq_true_eq]at h;refine⟨UInt8.ofNat n.toNat,?_⟩
   have:(UInt8.ofNat n.toNat).toNat=n.toNat:=by
    rw[UInt8.toNat_ofNat'];omega
   rw[this];have:((n.toNat:Nat):Int)=n:=by omega
   rw[this]
  ·cases h
 ·rintro⟨n,rfl⟩
  have:=n.toNat_lt
  simp only[Qge,Bool.and_eq_true,decide_eq_true_eq];omega
def Qiz:AV->Bool
 |.val (.int .i32 _)=>true
 |_=>false
theorem Qhv(x:AV):Qiz x=true↔∃n:Int,x=.val (.int .i32 n):=by
 constructor
 ·intro h
  unfold Qiz at h;split at h
  ·exact⟨_,rfl⟩
  ·cases h
 ·rintro⟨n,rfl⟩;rfl
theorem Qgb{f:AV->Bool}{g:AV->Prop}(h:∀x,f x=true↔g x)(xs:List AV):xs.all f=true↔∀x∈xs,g x:=by
 rw[List.all_eq_true];exact forall_congr' fun x=>imp_congr_right fun _=>h x
def QlD(k:IntKind):AV->Bool
 |.val (.int k' _)=>decide (k'=k)
 |_=>false
theorem Qjs(k:IntKind)(x:AV):QlD k x=true↔x=.val (.int k (intOf x)):=by
 constructor
 ·intro h
  unfold QlD at h;split at h
  ·have h:=of_decide_eq_true h
   rw[h];rfl
  ·cases h
 ·intro h;rw[h];simp[QlD]
def Qnk:AV->Bool
 |.val (.bool _)=>true
 |_=>false
theorem QhZ(x:AV):Qnk x=true↔x=.val (.bool (Q8M x)):=by
 constructor
 ·intro h
  unfold Qnk at h;split at h
  ·rfl
  ·cases h
 ·intro h;rw[h];rfl
def QmG:AV->Bool
 |.val (.string _)=>true
 |_=>false
theorem QiN(x:AV):QmG x=true↔x=.val (.string (Qdc x)):=by
 constructor
 ·intro h
  unfold QmG at h;split at h
  ·rfl
  ·cases h
 ·intro h;rw[h];rfl
def QkS(sz:Nat):AV->Bool
 |.slc sz' _=>sz' == sz
 |.val (.slice none l c)=>l == 0&&c == 0
 |_=>false
theorem QiV(sz:Nat)(x:AV):QkS sz x=true↔x=.slc sz (Q3z x)\/x=.val (.slice none 0 0):=by
 constructor
 ·intro h
  unfold QkS at h;split at h
  ·have h:=eq_of_beq h
   rw[h];exact .inl rfl
  ·simp only[Bool.and_eq_true,beq_iff_eq]at h
   rw[h.1,h.2];exact .inr rfl
  ·cases h
 ·rintro(h|rfl)
  ·rw[h];simp[QkS]
  ·rfl
theorem Qe5:∀l:List DP,l.all DP.b=true↔Q3R l
 | []=>by simp[Q3R]
 |x::r=>by
  rw[List.all_cons,Bool.and_eq_true,x.h,Qe5 r];rfl
def Q5q(op:BinOp)(k:IntKind)(x y:Int):Int:=match op with
 |.and=>k.wrap (BitVec.ofInt k.bits x &&& BitVec.ofInt k.bits y).toNat
 |.or=>k.wrap (BitVec.ofInt k.bits x ||| BitVec.ofInt k.bits y).toNat
 |.xor=>k.wrap (BitVec.ofInt k.bits x ^^^ BitVec.ofInt k.bits y).toNat
 |_=>k.wrap (BitVec.ofInt k.bits x &&& ~~~ BitVec.ofInt k.bits y).toNat
def QgQ(k:IntKind)(x n:Int):Int:=k.wrap (x * 2 ^ min n.toNat k.bits)
def Qoo(x n:Int):Int:=x.fdiv (2 ^ n.toNat)
def Qmx(x:AV)(off:Nat)(new:List AV):AV:=match x with
 |.agg cs=>.agg (setCells cs off new)
 |_=>new.headD .dead
def Q7w(xs:List AV)(i off:Nat)(new:List AV):List AV:=xs.set i (Qmx (xs.getD i .dead) off new)
def std:Pr where
 eqI a b:=a == b
 ltI a b:=decide (a<b)
 leI a b:=decide (a<=b)
 add a b:=a+b
 sub a b:=a-b
 mul a b:=a * b
 quo a b:=a.tdiv b
 rem a b:=a.tmod b
 inR k n:=⟨k.min<=n/\n<=k.max,decide (k.min<=n)&&decide (n<=k.max),by simp⟩
 nz n:=⟨n≠0,decide (n≠0),by simp⟩
 wrap k n:=k.wrap n
 minI a b:=if b<a then b else a
 maxI a b:=if a<b then b else a
 notB b:=!b
 eqB a b:=a == b
 andB a b:=a&&b
 bits:=Q5q
 shl:=QgQ
 shr:=Qoo
 nn n:=⟨0<=n,decide (0<=n),by simp⟩
 emp xs:=⟨xs=[],xs.isEmpty,by simp⟩
 eqS a b:=a.toList == b.toList
 catS a b:=a++b
 catok a b:=⟨((a.size+b.size:Nat):Int)<=IntKind.i64.max,decide (((a.size+b.size:Nat):Int)<=IntKind.i64.max),by simp⟩
 szS b:=b.size
 idxS b k:=(b.data.getD k.toNat 0).toNat
 cutS b l h:=b.extract l.toNat h.toNat
 bytesS b:=b.data.toList.map fun x=>.val (.int .u8 x.toNat)
 strB xs:=⟨(xs.map Q2K).toArray⟩
 isB xs:=⟨∀x∈xs,∃n:UInt8,x=.val (.int .u8 n.toNat),xs.all Qge,Qgb QgU xs⟩
 encS n:=Utf8.encode n
 strR xs:=runesBytes (xs.map intOf)
 isR xs:=⟨∀x∈xs,∃n:Int,x=.val (.int .i32 n),xs.all Qiz,Qgb Qhv xs⟩
 len xs:=xs.length
 at_ xs k:=xs.getD k.toNat .dead
 inb k n:=⟨0<=k/\k<n,decide (0<=k)&&decide (k<n),by simp⟩
 cut xs l h:=(xs.drop l.toNat).take (h-l).toNat
 cutok l h n:=⟨0<=l/\l<=h/\h<=n,decide (0<=l)&&(decide (l<=h)&&decide (h<=n)),by simp⟩
 app xs ys:=xs++ys
 bnd xs ys:=⟨xs.length+ys.length<=1000000000,decide (xs.length+ys.length<=1000000000),by simp⟩
 more xs:=⟨xs≠[],!xs.isEmpty,by simp⟩
 itmore s pos:=decide (pos<s.size)
 itr s pos:=((Utf8.decode s pos).1:Int)
 itp s pos:=pos+(Utf8.decode s pos).2
 toI n:=(n:Int)
 szok b:=⟨b.size<=1000000000,decide (b.size<=1000000000),by simp⟩
 nth cs j:=cs.getD j .dead
 cel x:=x.cells
 drp cs n:=cs.drop n
 int x:=intOf x
 boo x:=Q8M x
 str x:=Qdc x
 lst x:=Q3z x
 prf x:=Qfs x
 isN x:=Q8z x
 uno x:=QnK x
 hasI k x:=⟨x=.val (.int k (intOf x)),QlD k x,Qjs k x⟩
 hasB x:=⟨x=.val (.bool (Q8M x)),Qnk x,QhZ x⟩
 hasS x:=⟨x=.val (.string (Qdc x)),QmG x,QiN x⟩
 hasL sz x:=⟨x=.slc sz (Q3z x)\/x=.val (.slice none 0 0),QkS sz x,QiV sz x⟩
 hasP x:=⟨Q5K x,Q9x x,Q94 x⟩
 hasR x:=⟨Q5K x/\Q8z x=false,Q9x x&&!Q8z x,by rw[Bool.and_eq_true,Q94];simp⟩
 all l:=⟨Q3R l,l.all DP.b,Qe5 l⟩
 setx xs i off new:=Q7w xs i.toNat off new
 isE es j q:=es[j]?=some q
 appE es q:=es++[q]
 setE es j q:=es.set j q
 appN l j:=l++[j]
 ltS a b:=Op.bytesLess a.toList b.toList
 samE a b:=⟨a.length=b.length,decide (a.length=b.length),by simp⟩
abbrev Qp(xs:List AV):List AV:=xs.flatMap AV.cells
inductive PRel (w:World) (A:Nat->Nat->Prop):Value->AV->Prop
 |val (v:Value) (h:v.oneCell'=true):PRel w A v (.val v)
 |nil (sz:Nat):PRel w A (.slice none 0 0) (.slc sz [])
 |slc (b o c sz:Nat) (xs:List AV) (f:Nat->Value) (hc:xs.length<=c) (hm:c<=maxLen) (hw:∀x∈xs,x.cells.length=sz)
   (hcell:∀j u,(Qp xs)[j]?=some u->A b (o+j)/\w.cell? ⟨b,o+j,none⟩=some (f j))
   (hrel:∀j u,(Qp xs)[j]?=some u->PRel w A (f j) u):PRel w A (.slice (some ⟨b,o,none⟩) xs.length c) (.slc sz xs)
 |ref (b o:Nat) (cs:List AV) (f:Nat->Value) (hcell:∀j u,cs[j]?=some u->A b (o+j)/\w.cell? ⟨b,o+j,none⟩=some (f j))
   (hrel:∀j u,cs[j]?=some u->PRel w A (f j) u):PRel w A (.pointer (some ⟨b,o,none⟩)) (.ref cs)
 |opt (v:Value) (x:AV) (h:PRel w A v x) (hp:Q5K x):PRel w A v (.opt x)
theorem PRel.keep{w w':World}{A A':Nat->Nat->Prop}(hA:∀b o,A b o->A' b o/\w'.cell? ⟨b,o,none⟩=w.cell? ⟨b,o,none⟩){v:Value}{x:AV}(h:PRel w A v x):PRel w' A' v x:=by
 induction h with
 |val v h=>exact .val v h
 |nil sz=>exact .nil sz
 |slc b o c sz xs f hc hm hw hcell hrel ih =>
  exact .slc b o c sz xs f hc hm hw (fun j u h=>⟨(hA _ _ (hcell j u h).1).1,by rw[(hA _ _ (hcell j u h).1).2];exact(hcell j u h).2⟩) ih
 |ref b o cs f hcell hrel ih =>
  exact .ref b o cs f (fun j u h=>⟨(hA _ _ (hcell j u h).1).1,by rw[(hA _ _ (hcell j u h).1).2];exact(hcell j u h).2⟩) ih
 |opt v x h hp ih=>exact .opt v x ih hp
theorem PRel.one{w:World}{A:Nat->Nat->Prop}{v:Value}{x:AV}(h:PRel w A v x):v.oneCell'=true:=by
 induction h with
 |opt v x h hp ih=>exact ih
 |_=>first|assumption|rfl
structure Gh where
 A:Nat->Nat->Prop
 G:Nat->Option Nat
 loc:Nat->Nat
 sub:Nat->Bool
def Alike(w:World)(A:Nat->Nat->Prop)(ys:List Value)(us:List AV):Prop:=ys.length=us.length/\∀(j:Nat) y u,ys[j]?=some y->us[j]?=some u->PRel w A y u
theorem Alike.keep{w w':World}{A A':Nat->Nat->Prop}(hA:∀b o,A b o->A' b o/\w'.cell? ⟨b,o,none⟩=w.cell? ⟨b,o,none⟩){ys us}(h:Alike w A ys us):Alike w' A' ys us :=
 ⟨h.1,fun j y u h1 h2=>(h.2 j y u h1 h2).keep hA⟩
theorem Alike.one{w:World}{A:Nat->Nat->Prop}{ys us}(h:Alike w A ys us):∀y∈ys,y.oneCell'=true:=fun y hy=>by
 obtain⟨j,hj,rfl⟩:=List.mem_iff_getElem.1 hy;have h2:j<us.length:=h.1 ▸ hj;exact(h.2 j _ _ (getElem?_eq_getElem hj) (getElem?_eq_getElem h2)).one
theorem Alike.append{w:World}{A:Nat->Nat->Prop}{ys us ys' us'}(h:Alike w A ys us)(h':Alike w A ys' us'):Alike w A (ys++ys') (us++us'):=by
 refine⟨by simp[h.1,h'.1],fun j y u h1 h2=>?_⟩
 by_cases hj:j<ys.length
 ·rw[List.getElem?_append_left hj]at h1
  rw[List.getElem?_append_left (h.1 ▸ hj)]at h2;exact h.2 j y u h1 h2
 ·rw[List.getElem?_append_right (by omega)]at h1
  rw[List.getElem?_append_right (by have:=h.1;omega),<-h.1]at h2
  exact h'.2 _ y u h1 h2
theorem Alike.take{w:World}{A:Nat->Nat->Prop}{ys us}(h:Alike w A ys us)(n:Nat):Alike w A (ys.take n) (us.take n):=by
 refine⟨by simp[h.1],fun j y u h1 h2=>?_⟩
 rw[List.getElem?_take]at h1 h2;split at h1<;>simp_all
 exact h.2 j y u h1 h2
theorem Alike.drop{w:World}{A:Nat->Nat->Prop}{ys us}(h:Alike w A ys us)(n:Nat):Alike w A (ys.drop n) (us.drop n):=by
 refine⟨by simp[h.1],fun j y u h1 h2=>?_⟩
 rw[getElem?_drop]at h1 h2;exact h.2 _ y u h1 h2
theorem Alike.nil{w:World}{A:Nat->Nat->Prop}:Alike w A [] []:=⟨rfl,fun j y u h=>by simp at h⟩
def KidV(w:World)(g:Gh)(id:Nat)(y:Value):Prop :=
 ∃k zs,w.ownsRow 0 Qh0 1 y k zs/\∀b,y.ownBlock=some b->g.G b=some id/\g.sub b=true/\∀o,k<=o->¬g.A b o
def SubOk(w:World)(g:Gh)(id et sz:Nat)(v:Value)(ys:List Value):Prop :=
 (∀b,v.ownBlock=some b->g.sub b=false) /\
 (et=Q4e->∀(j:Nat) y,ys[j]?=some y->j % sz=1->KidV w g id y/\∀(i:Nat) z b,ys[i]?=some z->i % sz=1->z.ownBlock=some b->y.ownBlock=some b->i=j)
def RowV(w:World)(g:Gh)(id et sz:Nat)(v:Value)(xs:List AV):Prop :=
 ∃ys,w.ownsRow 0 et sz v xs.length ys/\(∀b,v.ownBlock=some b->g.G b=some id)/\Alike w g.A ys (Qp xs)/\(∀x∈xs,x.cells.length=sz)/\SubOk w g id et sz v ys
def Q5r:Option Ob->Prop
 |some (.box _)|some (.fbox _)=>True
 |_=>False
def Q8T(k:Bool):Option Ob->Prop
 |some (.iter (.str _ _))=>k=false
 |some (.iter (.map _))=>k=true
 |some (.iter (.mit _ _ _ _))=>k=false
 |_=>False
def Q9L(k:Bool)(l:Nat):Value:=match k with
 |false=>.pointer (some ⟨l,0,none⟩)
 |true=>.map (some l)
def Qf1(f:Nat)(t:Bool)(l off:Nat):Value:=match t with
 |true=>.func (.func f) #[.pointer (some ⟨l,off,none⟩)] #[]
 |false=>.func (.func f) #[] #[.pointer (some ⟨l,off,none⟩)]
def ARel0(w:World)(g:Gh)(ob:List Ob)(v:Value):AV->Prop
 |.box id off=>v=.pointer (some ⟨g.loc id,off,none⟩)/\Q5r ob[id]?
 |.row id ep=>v.oneCell'=true/\∃et sz fz e xs,ob[id]?=some (.row et sz fz e xs)/\ep<=e/\(e=ep->RowV w g id et sz v xs)
 |.rowk id ep k=>v.oneCell'=true/\∃et sz fz e xs,ob[id]?=some (.row et sz fz e xs)/\ep<=e/\(e=ep->0<=k/\k<=xs.length/\RowV w g id et sz v (xs.take k.toNat))
 |.rptr id ep i off=>v.oneCell'=true/\∃et sz fz e xs,ob[id]?=some (.row et sz fz e xs)/\ep<=e /\
   (e=ep->∃b c,v=.pointer (some ⟨b,i.toNat * sz+off,none⟩)/\0<=i/\i<xs.length/\RowV w g id et sz (.slice (some ⟨b,0,none⟩) xs.length c) xs)
 |.kb t=>v=.bool t
 |.iter id=>∃k,v=Q9L k (g.loc id)/\Q8T k ob[id]?
 |.clo f id off t=>v=Qf1 f t (g.loc id) off/\Q5r ob[id]?
 |.dead=>True
 |.agg _=>False
 |.tup _=>False
 |x=>PRel w g.A v x
def ARelC(w:World)(g:Gh)(ob:List Ob)(vs:List Value)(cs:List AV):Prop :=
 vs.length=cs.length/\∀(j:Nat) y u,vs[j]?=some y->cs[j]?=some u->ARel0 w g ob y u/\y.oneCell'=true
def ARel1(w:World)(g:Gh)(ob:List Ob)(v:Value):AV->Prop
 |.agg cs=>∃vs:Array Value,v=.agg vs/\ARelC w g ob vs.toList cs
 |x=>ARel0 w g ob v x
def ARel(w:World)(g:Gh)(ob:List Ob)(v:Value):AV->Prop
 |.tup xs=>∃vs:Array Value,v=.tuple vs/\vs.size=xs.length/\∀(j:Nat) y u,vs[j]?=some y->xs[j]?=some u->ARel1 w g ob y u
 |x=>ARel1 w g ob v x
def QcZ:AV->Option Value
 |.agg cs=>(Q6J cs).map fun vs=>.agg vs.toArray
 |.val v=>if v.oneCell' then some v else none
 |_=>none
def PRel1(w:World)(A:Nat->Nat->Prop)(v:Value):AV->Prop
 |.agg cs=>∃vs:Array Value,v=.agg vs/\Alike w A vs.toList cs
 |x=>PRel w A v x
def Qhy(w:World)(A:Nat->Nat->Prop)(e:MapEntry)(q:AV×AV):Prop:=QcZ q.1=some e.key/\PRel1 w A e.val q.2
def ItRel(w:World)(A:Nat->Nat->Prop)(loc:Nat->Nat)(n:Nat):It->Option Obj->Prop
 |.str s pos,o=>o=some (.stringIter s pos)
 |.map es,o=>∃ents,o=some (.map ents es.length)/\ents.size=es.length/\∀(j:Nat) e q,ents[j]?=some e->es[j]?=some q->Qhy w A e q/\e.born=j
 |.mit m es seen cur,o=>m<n/\∃sn:Array Nat,o=some (.mapIter (some (loc m)) es.length sn es.length)/\sn.toList=seen/\∀j q,cur=some (j,q)->∃s:Array Nat,sn=s.push j
theorem PRel1.keep{w w':World}{A A':Nat->Nat->Prop}(hA:∀b o,A b o->A' b o/\w'.cell? ⟨b,o,none⟩=w.cell? ⟨b,o,none⟩){v:Value}{x:AV}(h:PRel1 w A v x):PRel1 w' A' v x:=by
 cases x with
 |agg cs=>obtain⟨vs,rfl,h⟩:=h;exact⟨vs,rfl,h.keep hA⟩
 |_=>exact PRel.keep hA h
theorem ItRel.keep{w w':World}{A A':Nat->Nat->Prop}{loc loc':Nat->Nat}{n n':Nat}(hA:∀b o,A b o->A' b o/\w'.cell? ⟨b,o,none⟩=w.cell? ⟨b,o,none⟩)(hl:∀j,j<n->loc' j=loc j)(hn:n<=n'){x:It}{o:Option Obj}(h:ItRel w A loc n x o):ItRel w' A' loc' n' x o:=by
 cases x with
 |str s pos=>exact h
 |map es=>obtain⟨ents,h1,h2,h3⟩:=h;exact⟨ents,h1,h2,fun j e q he hq=>⟨⟨(h3 j e q he hq).1.1,(h3 j e q he hq).1.2.keep hA⟩,(h3 j e q he hq).2⟩⟩
 |mit m es seen cur=>obtain⟨h1,sn,h2,h3⟩:=h;exact⟨Nat.lt_of_lt_of_le h1 hn,sn,by rw[hl m h1];exact h2,h3⟩
theorem ItRel.at{w w':World}{A A':Nat->Nat->Prop}{loc loc':Nat->Nat}{n n':Nat}{x:It}{o o':Option Obj}(h:ItRel w A loc n x o)(hA:∀b o,A b o->A' b o/\w'.cell? ⟨b,o,none⟩=w.cell? ⟨b,o,none⟩)(hl:∀j,j<n->loc' j=loc j)(hn:n<=n')(ho:o'=o):ItRel w' A' loc' n' x o':=by
 rw[ho];exact h.keep hA hl hn
theorem ItRel.len{w:World}{A:Nat->Nat->Prop}{loc:Nat->Nat}{n n':Nat}{x:It}{o:Option Obj}(h:ItRel w A loc n x o)(hn:n<=n'):ItRel w A loc n' x o:=h.keep (fun _ _ h=>⟨h,rfl⟩) (fun _ _=>rfl) hn
structure Mem (w:World) (g:Gh) (ob:List Ob):Prop where
 box:∀(id:Nat) cs,ob[id]?=some (.box cs)->g.G (g.loc id)=some id/\∃cur T,w.heap[g.loc id]?=some (.cells cur T (0,0))/\ARelC w g ob cur.toList cs
 fbox:∀(id:Nat) cs,ob[id]?=some (.fbox cs)->∀(j:Nat) u,cs[j]?=some u->g.A (g.loc id) j/\∃y,w.cell? ⟨g.loc id,j,none⟩=some y/\PRel w g.A y u
 iter:∀(id:Nat) x,ob[id]?=some (.iter x)->g.G (g.loc id)=some id/\ItRel w g.A g.loc ob.length x w.heap[g.loc id]?
 own:∀b id,g.G b=some id->b<w.heap.size/\id<ob.length
 imm:∀b o,g.A b o->b<w.heap.size/\∀id,g.G b=some id->g.sub b=false->∃et sz e xs,ob[id]?=some (.row et sz true e xs)/\o<xs.length * sz
 roww:∀(id:Nat) et sz fz e xs,ob[id]?=some (.row et sz fz e xs)->0<sz/\∀x∈xs,x.cells.length=sz
 nsub:∀b,g.sub b=true->∃id et sz fz e xs,g.G b=some id/\ob[id]?=some (.row et sz fz e xs)
 uniq:∀b b' id,g.G b=some id->g.G b'=some id->g.sub b=false->g.sub b'=false->b=b'
def QoC(ob ob':List Ob)(id:Nat):Prop:=∃et sz fz fz' e xs xs',ob[id]?=some (.row et sz fz e xs)/\ob'[id]?=some (.row et sz fz' e xs')
theorem Q22{sz:Nat}:∀(xs:List AV),(∀x∈xs,x.cells.length=sz)->(Qp xs).length=xs.length * sz
 | [],_=>by simp[Qp]
 |y::r,hw=>by
  rw[Qp,flatMap_cons,List.length_append,hw _ mem_cons_self,List.length_cons,succ_mul];have:=Q22 r (fun x h=>hw x (mem_cons_of_mem _ h))
  unfold Qp at this;omega
theorem QaX{sz:Nat}{xs:List AV}(hw:∀x∈xs,x.cells.length=sz){k:Nat}(hk:k<=xs.length):Qp (xs.take k)=(Qp xs).take (k * sz):=by
 have h1:(Qp (xs.take k)).length=k * sz:=by
  rw[Q22 _ (fun x hx=>hw x (List.mem_of_mem_take hx)),length_take,Nat.min_eq_left (by omega)]
 have e:Qp xs=Qp (xs.take k)++Qp (xs.drop k):=by rw[<-List.flatMap_append,List.take_append_drop]
 rw[e];exact((List.take_append_of_le_length (l₂:=Qp (xs.drop k)) (Nat.le_of_eq h1.symm)).trans (List.take_of_length_le (Nat.le_of_eq h1))).symm
def Qkm(w w':World)(A':Nat->Nat->Prop)(et sz b:Nat)(xs':List AV):Prop :=
 ∃cur cur',w.heap[b]?=some (.cells cur et (0,0))/\w'.heap[b]?=some (.cells cur' et (0,0))/\cur'.size=cur.size/\Alike w' A' (cur'.toList.take (xs'.length * sz)) (Qp xs')
def RowKeep(w:World)(g:Gh)(w':World)(g':Gh)(id et sz:Nat)(xs xs':List AV):Prop :=
 (xs'=xs/\∀b,g.G b=some id->g'.G b=some id/\w'.heap[b]?=w.heap[b]?) \/
 (et≠Q4e/\xs'.length=xs.length/\(∀x∈xs',x.cells.length=sz)/\∀b,g.G b=some id->g'.G b=some id/\(g.sub b=false->Qkm w w' g'.A et sz b xs'))
theorem RowKeep.G{w w':World}{g g':Gh}{id et sz:Nat}{xs xs':List AV}(h:RowKeep w g w' g' id et sz xs xs'){b:Nat}(hb:g.G b=some id):g'.G b=some id:=by
 rcases h with h|h
 ·exact(h.2 b hb).1
 ·exact(h.2.2.2 b hb).1
theorem RowKeep.len{w w':World}{g g':Gh}{id et sz:Nat}{xs xs':List AV}(h:RowKeep w g w' g' id et sz xs xs'):xs'.length=xs.length:=by
 rcases h with h|h
 ·rw[h.1]
 ·exact h.2.1
theorem RowKeep.trans{w1 w2 w3:World}{g1 g2 g3:Gh}{id et sz:Nat}{xs1 xs2 xs3:List AV}(h:RowKeep w1 g1 w2 g2 id et sz xs1 xs2)(k:RowKeep w2 g2 w3 g3 id et sz xs2 xs3)
  (hA:∀b o,g2.A b o->g3.A b o/\w3.cell? ⟨b,o,none⟩=w2.cell? ⟨b,o,none⟩) (hs:∀b,g1.G b=some id->g2.sub b=g1.sub b):RowKeep w1 g1 w3 g3 id et sz xs1 xs3:=by
 rcases h with ⟨rfl,h⟩|⟨h1,h2,h3,h4⟩
 ·rcases k with ⟨rfl,k⟩|⟨k1,k2,k3,k4⟩
  ·exact .inl ⟨rfl,fun b hG=>⟨(k b (h b hG).1).1,(k b (h b hG).1).2.trans (h b hG).2⟩⟩
  ·refine .inr ⟨k1,k2,k3,fun b hG=>⟨(k4 b (h b hG).1).1,fun hb=>?_⟩⟩
   obtain⟨cur,cur',e1,e2,e3,e4⟩:=(k4 b (h b hG).1).2 ((hs b hG).trans hb);exact⟨cur,cur',by rw[<-(h b hG).2];exact e1,e2,e3,e4⟩
 ·rcases k with ⟨rfl,k⟩|⟨k1,k2,k3,k4⟩
  ·refine .inr ⟨h1,h2,h3,fun b hG=>⟨(k b (h4 b hG).1).1,fun hb=>?_⟩⟩
   obtain⟨cur,cur',e1,e2,e3,e4⟩:=(h4 b hG).2 hb;exact⟨cur,cur',e1,by rw[(k b (h4 b hG).1).2];exact e2,e3,e4.keep hA⟩
  ·refine .inr ⟨h1,k2.trans h2,k3,fun b hG=>⟨(k4 b (h4 b hG).1).1,fun hb=>?_⟩⟩
   obtain⟨cur,cur',e1,e2,e3,e4⟩:=(h4 b hG).2 hb;obtain⟨cur2,cur3,f1,f2,f3,f4⟩:=(k4 b (h4 b hG).1).2 ((hs b hG).trans hb);rw[e2]at f1;obtain rfl:cur'=cur2:=by simpa using f1
   exact⟨cur,cur3,e1,f2,f3.trans e3,f4⟩
theorem RowKeep.turn{w w':World}{g g' k k':Gh}{id j et sz:Nat}{xs xs':List AV}(h:RowKeep w g w' g' j et sz xs xs')(h1:∀b,k.G b=some id->g.G b=some j/\g.sub b=k.sub b)
  (h2:∀b,k.G b=some id->g'.G b=some j->k'.G b=some id) (hA:g'.A=k'.A):RowKeep w k w' k' id et sz xs xs':=by
 rcases h with ⟨rfl,h⟩|⟨e1,e2,e3,h⟩
 ·exact .inl ⟨rfl,fun b hG=>⟨h2 b hG (h b (h1 b hG).1).1,(h b (h1 b hG).1).2⟩⟩
 ·exact .inr ⟨e1,e2,e3,fun b hG=>⟨h2 b hG (h b (h1 b hG).1).1,fun hb=>hA ▸ (h b (h1 b hG).1).2 ((h1 b hG).2.trans hb)⟩⟩
structure Ext (w:World) (g:Gh) (ob:List Ob) (w':World) (g':Gh) (ob':List Ob):Prop where
 A:∀b o,g.A b o->g'.A b o/\w'.cell? ⟨b,o,none⟩=w.cell? ⟨b,o,none⟩
 loc:∀id,id<ob.length->g'.loc id=g.loc id
 isb:∀id:Nat,Q5r ob[id]?->Q5r ob'[id]?
 isi:∀{k:Bool}(id:Nat),Q8T k ob[id]?->Q8T k ob'[id]?
 row:∀(id:Nat) et sz fz e xs,ob[id]?=some (.row et sz fz e xs)->∃fz' e' xs',ob'[id]?=some (.row et sz fz' e' xs')/\e<=e' /\
  (e'=e->RowKeep w g w' g' id et sz xs xs')
 sub:∀b id,g.G b=some id->QoC ob ob' id->g'.sub b=g.sub b/\(g.sub b=true->∀o,g'.A b o->g.A b o)
theorem Q4{α:Type}{l:List α}{i:Nat}{x:α}(h:l[i]?=some x):i<l.length:=(List.getElem?_eq_some_iff.1 h).1
theorem Q2O{ob:List Ob}{id:Nat}(h:Q5r ob[id]?):id<ob.length:=by
 by_cases hl:id<ob.length
 ·exact hl
 ·rw[List.getElem?_eq_none (by omega)]at h;exact h.elim
theorem Q3X{k:Bool}{ob:List Ob}{id:Nat}(h:Q8T k ob[id]?):id<ob.length:=by
 by_cases hl:id<ob.length
 ·exact hl
 ·rw[List.getElem?_eq_none (by omega)]at h;exact h.elim
section
variable {w w' w'':World}{g g' g'':Gh}{ob ob' ob'':List Ob}
theorem Q2U{et sz n:Nat}{v:Value}{ys:List Value}(h:w.ownsRow 0 et sz v n ys)(hb:∀b,v.ownBlock=some b->w'.heap[b]?=w.heap[b]?):w'.ownsRow 0 et sz v n ys:=by
 obtain⟨h1,h2⟩:=h;refine⟨h1,?_⟩;rcases h2 with h2|⟨b,cap,cur,rfl,h3,h4,h5⟩
 ·exact .inl h2
 ·refine .inr ⟨b,cap,cur,rfl,h3,?_,h5⟩
  rw[hb b rfl];exact h4
theorem SubOk.ext{id id' et sz:Nat}{v:Value}{ys:List Value}(h:SubOk w g id et sz v ys)(hv:∀b,v.ownBlock=some b->g.G b=some id)
  (hb:∀b,g.G b=some id->g'.G b=some id'/\g'.sub b=g.sub b/\(g.sub b=true->w'.heap[b]?=w.heap[b]?/\∀o,g'.A b o->g.A b o)):SubOk w' g' id' et sz v ys:=by
 refine⟨fun b h1=>by rw[(hb b (hv b h1)).2.1];exact h.1 b h1,fun he j y hy hj=>?_⟩
 obtain⟨⟨k,zs,h1,h2⟩,h3⟩:=h.2 he j y hy hj;refine⟨⟨k,zs,Q2U h1 fun b h4=>((hb b (h2 b h4).1).2.2 (h2 b h4).2.1).1,fun b h4=>?_⟩,h3⟩
 obtain⟨h5,h6,h7⟩:=h2 b h4;obtain⟨h8,h9,qX⟩:=hb b h5;exact⟨h8,h9.trans h6,fun o ho hA=>h7 o ho ((qX h6).2 o hA)⟩
theorem RowV.ext{id et sz:Nat}{v:Value}{xs:List AV}(h:RowV w g id et sz v xs)(hA:∀b o,g.A b o->g'.A b o/\w'.cell? ⟨b,o,none⟩=w.cell? ⟨b,o,none⟩)
  (hb:∀b,g.G b=some id->g'.G b=some id/\w'.heap[b]?=w.heap[b]?/\g'.sub b=g.sub b/\(g.sub b=true->∀o,g'.A b o->g.A b o)):RowV w' g' id et sz v xs:=by
 obtain⟨ys,ho,hG,jT,hw,hs⟩:=h;exact⟨ys,Q2U ho fun b h=>(hb b (hG b h)).2.1,fun b h=>(hb b (hG b h)).1,jT.keep hA,hw,hs.ext hG fun b h=>⟨(hb b h).1,(hb b h).2.2.1,fun h1=>⟨(hb b h).2.1,(hb b h).2.2.2 h1⟩⟩⟩
theorem Ext.rowv(E:Ext w g ob w' g' ob'){id et sz e:Nat}{fz:Bool}{xs:List AV}(h1:ob[id]?=some (.row et sz fz e xs)):∃fz' e' xs',ob'[id]?=some (.row et sz fz' e' xs')/\e<=e' /\
  (e'=e->xs'.length=xs.length/\∀v k,RowV w g id et sz v (xs.take k)->RowV w' g' id et sz v (xs'.take k)):=by
 obtain⟨fz',e',xs',h2,h3,h4⟩:=E.row _ _ _ _ _ _ h1;refine⟨fz',e',xs',h2,h3,fun he=>⟨(h4 he).len,fun v k h=>?_⟩⟩
 subst he;have vj:=fun b hb=>E.sub b id hb ⟨_,_,_,_,_,_,_,h1,h2⟩
 rcases h4 rfl with ⟨rfl,h5⟩|⟨h5,h6,h7,h8⟩
 ·exact h.ext E.A fun b hb=>⟨(h5 b hb).1,(h5 b hb).2,(vj b hb).1,(vj b hb).2⟩
 ·obtain⟨ys,⟨h9,ho⟩,hG,jT,hw,hs⟩:=h
  have jC:(xs'.take k).length=(xs.take k).length:=by rw[length_take,length_take,h6]
  have gy:∀x∈xs'.take k,x.cells.length=sz:=fun x hx=>h7 x (List.mem_of_mem_take hx)
  have jf:∀ys',SubOk w' g' id et sz v ys':=fun ys'=>⟨fun b hb=>by rw[(vj b (hG b hb)).1];exact hs.1 b hb,fun he=>absurd he h5⟩
  rcases ho with ⟨rfl,h0⟩|⟨b,cap,cur,rfl,qX,v8,gC,gz,gP,xQ⟩
  ·have hx:xs'.take k=[]:=List.eq_nil_of_length_eq_zero (jC.trans h0)
   rw[hx];exact⟨[],World.ownsRow_nil _ _ _ _,fun b hb=>(by cases hb),Alike.nil,(fun x hx=>by cases hx),jf []⟩
  ·have qR:=hG b rfl
   obtain⟨cur1,cur',e1,e2,e3,e4⟩:=(h8 b qR).2 (hs.1 b rfl);rw[v8]at e1;obtain rfl:cur=cur1:=by simpa using e1
   have hk:(xs'.take k).length<=xs'.length:=by rw[length_take];omega
   have qn:Qp (xs'.take k)=(Qp xs').take ((xs'.take k).length * sz):=by
    have h1:=Q22 xs' h7;rw[length_take];rcases Nat.le_total k xs'.length with jR|jR
    ·rw[Nat.min_eq_left jR,QaX h7 jR]
    ·rw[Nat.min_eq_right jR,List.take_of_length_le jR,List.take_of_length_le (by omega)]
   have jF:(xs'.take k).length * sz<=xs'.length * sz:=Nat.mul_le_mul_right _ hk;refine⟨cur'.toList.take ((xs'.take k).length * sz),⟨?_,.inr ⟨b,cap,cur',by rw[jC],qX,e2,by rw[jC];exact gC,gz,by rw[e3];exact gP,rfl⟩⟩,fun b' ye=>?_,?_,gy,jf _⟩
   ·have gQ:cur'.toList.length=cap * sz:=by rw[Array.length_toList,e3,gP]
    have:(xs'.take k).length * sz<=cap * sz:=Nat.mul_le_mul_right _ (by rw[jC];exact gC)
    rw[length_take,gQ];omega
   ·obtain rfl:b=b':=by simpa[Value.ownBlock]using ye
    exact(h8 b qR).1
   ·have:=e4.take ((xs'.take k).length * sz)
    rw[List.take_take,Nat.min_eq_left jF]at this;rw[qn];exact this
theorem Mem.nosub(M:Mem w g ob){b id:Nat}(hG:g.G b=some id)(h:∀et sz fz e xs,ob[id]?≠some (.row et sz fz e xs)):g.sub b=false:=by
 cases hs:g.sub b with
 |false=>rfl
 |true =>
  obtain⟨id',et,sz,fz,e,xs,h1,h2⟩:=M.nsub b hs;rw[hG]at h1;obtain rfl:id=id':=by simpa using h1
  exact absurd h2 (h _ _ _ _ _)
theorem ARel0.ext(E:Ext w g ob w' g' ob'){v:Value}{x:AV}(h:ARel0 w g ob v x):ARel0 w' g' ob' v x:=by
 cases x with
 |box id off=>exact⟨by rw[E.loc id (Q2O h.2)];exact h.1,E.isb _ h.2⟩
 |row id ep =>
  obtain⟨h0,et,sz,fz,e,xs,h1,h2,h3⟩:=h;obtain⟨fz',e',xs',h4,h5,h6⟩:=E.rowv h1;refine⟨h0,et,sz,fz',e',xs',h4,by omega,fun he=>?_⟩
  have qS:e'=e:=by omega
  obtain⟨h7,h8⟩:=h6 qS;have h9:=h3 (by omega)
  rw[<-take_length (l:=xs)]at h9;have:=h8 v _ h9
  rwa [<-h7,take_length]at this
 |rowk id ep k =>
  obtain⟨h0,et,sz,fz,e,xs,h1,h2,h3⟩:=h;obtain⟨fz',e',xs',h4,h5,h6⟩:=E.rowv h1;refine⟨h0,et,sz,fz',e',xs',h4,by omega,fun he=>?_⟩
  have qS:e'=e:=by omega
  obtain⟨h7,v8⟩:=h6 qS;obtain⟨h8,h9,qX⟩:=h3 (by omega)
  exact⟨h8,by omega,v8 _ _ qX⟩
 |rptr id ep i off =>
  obtain⟨h0,et,sz,fz,e,xs,h1,h2,h3⟩:=h;obtain⟨fz',e',xs',h4,h5,h6⟩:=E.rowv h1;refine⟨h0,et,sz,fz',e',xs',h4,by omega,fun he=>?_⟩
  have qS:e'=e:=by omega
  obtain⟨h7,gC⟩:=h6 qS;obtain⟨b,c,h8,h9,qX,v8⟩:=h3 (by omega)
  have gz:=gC (.slice (some ⟨b,0,none⟩) xs.length c) xs.length (by rw[take_length];exact v8)
  rw[<-h7,take_length]at gz;exact⟨b,c,h8,h9,by omega,gz⟩
 |kb t=>exact h
 |iter id=>obtain⟨k,h1,h2⟩:=h;exact⟨k,by rw[E.loc id (Q3X h2)];exact h1,E.isi _ h2⟩
 |clo f id off t=>exact⟨by rw[E.loc id (Q2O h.2)];exact h.1,E.isb _ h.2⟩
 |dead=>trivial
 |agg _=>exact h
 |tup _=>exact h
 |val _=>exact PRel.keep E.A h
 |slc _ _=>exact PRel.keep E.A h
 |ref _=>exact PRel.keep E.A h
 |opt _=>exact PRel.keep E.A h
theorem ARelC.ext(E:Ext w g ob w' g' ob'){vs:List Value}{cs:List AV}(h:ARelC w g ob vs cs):ARelC w' g' ob' vs cs :=
 ⟨h.1,fun j y u h1 h2=>⟨(h.2 j y u h1 h2).1.ext E,(h.2 j y u h1 h2).2⟩⟩
theorem ARel1.ext(E:Ext w g ob w' g' ob'){v:Value}{x:AV}(h:ARel1 w g ob v x):ARel1 w' g' ob' v x:=by
 cases x with
 |agg cs=>obtain⟨vs,rfl,h⟩:=h;exact⟨vs,rfl,h.ext E⟩
 |val a=>exact ARel0.ext (x:=.val a) E h
 |slc a b=>exact ARel0.ext (x:=.slc a b) E h
 |ref a=>exact ARel0.ext (x:=.ref a) E h
 |opt a=>exact ARel0.ext (x:=.opt a) E h
 |tup a=>exact(show False from h).elim
 |box a b=>exact ARel0.ext (x:=.box a b) E h
 |row a b=>exact ARel0.ext (x:=.row a b) E h
 |rowk a b c=>exact ARel0.ext (x:=.rowk a b c) E h
 |rptr a b c d=>exact ARel0.ext (x:=.rptr a b c d) E h
 |kb a=>exact ARel0.ext (x:=.kb a) E h
 |iter a=>exact ARel0.ext (x:=.iter a) E h
 |clo a b c d=>exact ARel0.ext (x:=.clo a b c d) E h
 |dead=>trivial
theorem ARel.ext(E:Ext w g ob w' g' ob'){v:Value}{x:AV}(h:ARel w g ob v x):ARel w' g' ob' v x:=by
 cases x with
 |tup a=>obtain⟨vs,rfl,h1,h2⟩:=h;exact⟨vs,rfl,h1,fun j y u h3 h4=>(h2 j y u h3 h4).ext E⟩
 |val a=>exact ARel1.ext (x:=.val a) E h
 |slc a b=>exact ARel1.ext (x:=.slc a b) E h
 |ref a=>exact ARel1.ext (x:=.ref a) E h
 |opt a=>exact ARel1.ext (x:=.opt a) E h
 |agg a=>exact ARel1.ext (x:=.agg a) E h
 |box a b=>exact ARel1.ext (x:=.box a b) E h
 |row a b=>exact ARel1.ext (x:=.row a b) E h
 |rowk a b c=>exact ARel1.ext (x:=.rowk a b c) E h
 |rptr a b c d=>exact ARel1.ext (x:=.rptr a b c d) E h
 |kb a=>exact ARel1.ext (x:=.kb a) E h
 |iter a=>exact ARel1.ext (x:=.iter a) E h
 |clo a b c d=>exact ARel1.ext (x:=.clo a b c d) E h
 |dead=>trivial
theorem Ext.refl:Ext w g ob w g ob:=⟨fun _ _ h=>⟨h,rfl⟩,fun _ _=>rfl,fun _ h=>h,fun _ h=>h,fun _ _ _ fz e xs h=>⟨fz,e,xs,h,le_refl _,fun _=>.inl ⟨rfl,fun _ h=>⟨h,rfl⟩⟩⟩,fun _ _ _ _=>⟨rfl,fun _ _ h=>h⟩⟩
theorem Ext.below(M:Mem w g ob)(hb:Below w.heap.size w w'):Ext w g ob w' g ob :=
 ⟨fun b o h=>⟨h,World.cell?_of_block (w:=w) (hb.block b (M.imm b o h).1)⟩,fun _ _=>rfl,fun _ h=>h,fun _ h=>h,
  fun _ _ _ fz e xs h=>⟨fz,e,xs,h,le_refl _,fun _=>.inl ⟨rfl,fun b hG=>⟨hG,hb.block b (M.own b _ hG).1⟩⟩⟩,fun _ _ _ _=>⟨rfl,fun _ _ h=>h⟩⟩
theorem Mem.below(M:Mem w g ob)(hb:Below w.heap.size w w'):Mem w' g ob:=by
 have E:=Ext.below M hb
 refine⟨fun id cs h=>?_,fun id cs h j u hj=>?_,fun id x h=>?_,fun b id h=>⟨Nat.lt_of_lt_of_le (M.own b id h).1 hb.size,(M.own b id h).2⟩,
  fun b o h=>⟨Nat.lt_of_lt_of_le (M.imm b o h).1 hb.size,(M.imm b o h).2⟩,M.roww,M.nsub,M.uniq⟩
 ·obtain⟨h1,cur,T,h2,h3⟩:=M.box id cs h
  exact⟨h1,cur,T,by rw[hb.block _ (M.own _ _ h1).1];exact h2,h3.ext E⟩
 ·obtain⟨h1,y,h2,h3⟩:=M.fbox id cs h j u hj
  exact⟨h1,y,by rw[(E.A _ _ h1).2];exact h2,h3.keep E.A⟩
 ·obtain⟨h1,h2⟩:=M.iter id x h
  exact⟨h1,h2.at E.A E.loc (le_refl _) (hb.block _ (M.own _ _ h1).1)⟩
end
def Q1E:TypeDesc->Bool×Nat×List (Nat×Nat)×Option IntKind×Bool×Nat
 |.struct fs=>(true,0,fs.toList.map (fun f=>(f.offset,f.type)),none,false,1)
 |.slice e=>(false,e,[],none,true,2)
 |.int k=>(false,0,[],some k,false,3)
 |.pointer _=>(false,0,[],none,false,4)
 |.bool=>(false,0,[],none,false,5)
 |.string=>(false,0,[],none,false,6)
 |.func _ _ _=>(false,0,[],none,false,7)
 |.array n e=>(true,e,[],none,false,100+n)
 |.map _ e=>(false,e,[],none,false,8)
 |_=>(false,0,[],none,false,0)
def QnD:TypeDesc->Nat
 |.map k _=>k
 |_=>0
def Qlw:Value->Bool
 |.agg _=>true
 |_=>false
structure TiOk (P:Program) (t:Nat) (x:TI):Prop where
 info:(P.info? t).map (fun i=>(i.size,i.bytes,i.zero.map (·.cells.toList),i.zero.map Qlw))=some (x.size,x.bytes,some x.zero,some x.agg)
 und:(P.underlying t).map Q1E=some (x.agg,x.elem,x.flds,x.kind,x.sl,x.kd)
 zl:x.zero.length=x.size
 one:x.agg=false->x.size=1
 by_:x.bytes<=140000
 fi:x.flds.all (fun f=>(P.info? f.2).isSome)=true
 zone:x.zero.all (·.oneCell')=true
 okk:x.ok=true
 ky:(P.underlying t).map QnD=some x.key
def Qdq(P:Program)(l:List (Nat×TI)):Prop:=∀t x,(t,x)∈l->TiOk P t x
def TyOk(P:Program)(ty:Tys):Prop:=Qdq P (ty ())
section
variable {P:Program}{ty:Tys}
theorem Q1S(hT:TyOk P ty){t:Nat}(h:(Q1 t ty).ok=true):TiOk P t (Q1 t ty):=by
 suffices H:∀l:List (Nat×TI),(∀t x,(t,x)∈l->TiOk P t x)->(Q5Q t l).ok=true->TiOk P t (Q5Q t l) from H (ty ()) hT h
 intro l;induction l with
 |nil=>intro _ h;cases h
 |cons a r ih =>
  obtain⟨u,x⟩:=a;intro h1 h2;unfold Q5Q at h2 ⊢;by_cases e:t=u
  ·subst e
   rw[if_pos rfl];exact h1 _ _ (mem_cons_self)
  ·rw[if_neg e]at h2 ⊢
   exact ih (fun t x h=>h1 t x (mem_cons_of_mem _ h)) h2
theorem QfH(hT:TyOk P ty)(t:Nat):TiOk P t (Q1 t ty)\/Q1 t ty=⟨0,false,0,[],[],none,0,false,0,false,0⟩:=by
 suffices H:∀l:List (Nat×TI),(∀t x,(t,x)∈l->TiOk P t x)->TiOk P t (Q5Q t l)\/Q5Q t l=⟨0,false,0,[],[],none,0,false,0,false,0⟩ from H (ty ()) hT
 intro l;induction l with
 |nil=>intro _;exact .inr rfl
 |cons a r ih =>
  obtain⟨u,x⟩:=a;intro h1;unfold Q5Q;by_cases e:t=u
  ·subst e
   rw[if_pos rfl];exact .inl (h1 _ _ (mem_cons_self))
  ·rw[if_neg e]
   exact ih (fun t x h=>h1 t x (mem_cons_of_mem _ h))
theorem Q3N(hT:TyOk P ty){t k:Nat}(h:(Q1 t ty).kd=k)(hk:k≠0):TiOk P t (Q1 t ty):=by
 rcases QfH hT t with h1|h1
 ·exact h1
 ·rw[h1]at h;exact absurd h.symm hk
theorem Q9R(hT:TyOk P ty){t:Nat}(h:(Q1 t ty).sl=true):TiOk P t (Q1 t ty):=by
 rcases QfH hT t with h1|h1
 ·exact h1
 ·rw[h1]at h;cases h
theorem Q7F(hT:TyOk P ty){t:Nat}{k:IntKind}(h:(Q1 t ty).kind=some k):TiOk P t (Q1 t ty):=by
 rcases QfH hT t with h1|h1
 ·exact h1
 ·rw[h1]at h;cases h
theorem QeD(hT:TyOk P ty){t f:Nat}{q:Nat×Nat}(h:(Q1 t ty).flds[f]?=some q):TiOk P t (Q1 t ty):=by
 rcases QfH hT t with h1|h1
 ·exact h1
 ·rw[h1]at h;simp at h
theorem TiOk.i{t:Nat}{x:TI}(h:TiOk P t x):∃i z,P.info? t=some i/\i.size=x.size/\i.bytes=x.bytes/\i.zero=some z/\z.cells.toList=x.zero/\Qlw z=x.agg:=by
 have:=h.info
 cases hi:P.info? t with
 |none=>simp[hi]at this
 |some i =>
  rw[hi]at this;simp only[Option.map_some,Option.some.injEq,Prod.mk.injEq,Option.map_eq_some_iff]at this;obtain⟨h1,h2,⟨z,h3,h4⟩,z',h5,h6⟩:=this;obtain rfl:z=z':=by rw[h3]at h5;exact Option.some.inj h5
  exact⟨i,z,rfl,h1,h2,h3,h4,h6⟩
theorem TiOk.u{t:Nat}{x:TI}(h:TiOk P t x):∃d,P.underlying t=some d/\Q1E d=(x.agg,x.elem,x.flds,x.kind,x.sl,x.kd):=by
 have:=h.und
 cases hi:P.underlying t with
 |none=>simp[hi]at this
 |some d=>rw[hi]at this;exact⟨d,rfl,by simpa using this⟩
theorem TiOk.size{t:Nat}{x:TI}(h:TiOk P t x)(W:World):(sizeOf t).run P W=.ok x.size W:=by
 obtain⟨i,z,h1,h2,_⟩:=h.i;simp[sizeOf,typeInfo,h1,h2]
theorem TiOk.zeroV{t:Nat}{x:TI}(h:TiOk P t x):∃z,z.cells.toList=x.zero/\Qlw z=x.agg/\∀W,(zeroValue t).run P W=.ok z W:=by
 obtain⟨i,z,h1,h2,h3,h4,h5,h6⟩:=h.i;exact⟨z,h5,h6,fun W=>by simp[zeroValue,typeInfo,h1,h4]⟩
theorem TiOk.isAgg{t:Nat}{x:TI}(h:TiOk P t x)(W:World):(isAgg t).run P W=.ok x.agg W:=by
 obtain⟨d,h1,h2⟩:=h.u;unfold Go.isAgg;rw[Sem.run_bind,run_underlying h1];cases d<;>simp[Q1E]at h2 ⊢<;>simp_all
theorem TiOk.slice{t:Nat}{x:TI}(h:TiOk P t x)(hs:x.sl=true):P.underlying t=some (.slice x.elem):=by
 obtain⟨d,h1,h2⟩:=h.u;cases d<;>simp[Q1E]at h2<;>simp_all
theorem TiOk.str{t:Nat}{x:TI}(h:TiOk P t x)(hs:x.kd=6):P.underlying t=some .string:=by
 obtain⟨d,h1,h2⟩:=h.u;cases d<;>simp[Q1E]at h2<;>first|(simp_all;done)|omega
theorem TiOk.bool{t:Nat}{x:TI}(h:TiOk P t x)(hs:x.kd=5):P.underlying t=some .bool:=by
 obtain⟨d,h1,h2⟩:=h.u;cases d<;>simp[Q1E]at h2<;>first|(simp_all;done)|omega
theorem TiOk.mapT{t:Nat}{x:TI}(h:TiOk P t x)(hs:x.kd=8):P.underlying t=some (.map x.key x.elem):=by
 obtain⟨d,h1,h2⟩:=h.u;have h3:=h.ky;rw[h1]at h3 ⊢;cases d<;>simp[Q1E,QnD]at h2 h3<;>first|(simp_all;done)|omega
theorem TiOk.slk{t:Nat}{x:TI}(h:TiOk P t x)(hs:x.kd=2):P.underlying t=some (.slice x.elem):=by
 obtain⟨d,h1,h2⟩:=h.u;cases d<;>simp[Q1E]at h2<;>first|(simp_all;done)|omega
theorem TiOk.ptr{t:Nat}{x:TI}(h:TiOk P t x)(hs:x.kd=4):∃e,P.underlying t=some (.pointer e):=by
 obtain⟨d,h1,h2⟩:=h.u;cases d<;>simp[Q1E]at h2<;>first|(simp_all;done)|omega
theorem TiOk.fnc{t:Nat}{x:TI}(h:TiOk P t x)(hs:x.kd=7):∃a b c,P.underlying t=some (.func a b c):=by
 obtain⟨d,h1,h2⟩:=h.u;cases d<;>simp[Q1E]at h2<;>first|(simp_all;done)|omega
theorem TiOk.int{t:Nat}{x:TI}{k:IntKind}(h:TiOk P t x)(hs:x.kind=some k):P.underlying t=some (.int k):=by
 obtain⟨d,h1,h2⟩:=h.u;cases d<;>simp[Q1E]at h2<;>simp_all
theorem TiOk.strct{t:Nat}{x:TI}(h:TiOk P t x)(hs:x.kd=1):∃fs,P.underlying t=some (.struct fs)/\x.flds=fs.toList.map (fun f=>(f.offset,f.type)):=by
 obtain⟨d,h1,h2⟩:=h.u;cases d<;>simp[Q1E]at h2<;>first|(simp_all;done)|omega
theorem TiOk.arr{t:Nat}{x:TI}(h:TiOk P t x)(hs:100<=x.kd):P.underlying t=some (.array (x.kd-100) x.elem):=by
 obtain⟨d,h1,h2⟩:=h.u;cases d<;>simp[Q1E]at h2<;>try (exfalso;omega)
 obtain⟨_,rfl,_,_,_,h3⟩:=h2;rw[h1,<-h3];simp
theorem TiOk.aggd{t:Nat}{x:TI}(h:TiOk P t x)(hs:x.agg=true):∃d,P.underlying t=some d/\((∃fs,d=.struct fs)\/∃n e,d=.array n e):=by
 obtain⟨d,h1,h2⟩:=h.u;refine⟨d,h1,?_⟩;cases d<;>simp[Q1E]at h2<;>first|exact .inl ⟨_,rfl⟩|exact .inr ⟨_,_,rfl⟩|(simp_all;done)
theorem TiOk.strct'{t:Nat}{x:TI}(h:TiOk P t x){f:Nat}{q:Nat×Nat}(hs:x.flds[f]?=some q):∃fs fd,P.underlying t=some (.struct fs)/\fs[f]?=some fd/\q=(fd.offset,fd.type):=by
 have ha:x.kd=1:=by
  obtain⟨d,h1,h2⟩:=h.u;cases d<;>simp[Q1E]at h2<;>simp_all
 obtain⟨fs,h1,h2⟩:=h.strct ha;rw[h2,List.getElem?_map,Option.map_eq_some_iff]at hs;obtain⟨fd,h3,h4⟩:=hs;exact⟨fs,fd,h1,by simpa using h3,h4.symm⟩
end
section
variable {w:World}{g:Gh}{ob:List Ob}{v:Value}{x:AV}
theorem PRel.to0(h:PRel w g.A v x):ARel0 w g ob v x:=by cases h<;>first|exact .val _ ‹_›|exact .nil _|exact .slc _ _ _ _ _ _ ‹_› ‹_› ‹_› ‹_› ‹_›|exact .ref _ _ _ _ ‹_› ‹_›|exact .opt _ _ ‹_› ‹_›
theorem ARel0.to1(h:ARel0 w g ob v x):ARel1 w g ob v x:=by cases x<;>first|exact h|exact(show False from h).elim
theorem ARel1.to(h:ARel1 w g ob v x):ARel w g ob v x:=by cases x<;>first|exact h|exact(show False from h).elim
theorem ARel0.to(h:ARel0 w g ob v x):ARel w g ob v x:=h.to1.to
theorem PRel.to(h:PRel w g.A v x):ARel w g ob v x:=(PRel.to0 h).to
theorem ARel.valEq{u:Value}(h:ARel w g ob v (.val u)):v=u:=by
 cases(show PRel w g.A v (.val u) from h);rfl
theorem ARel.mkVal{u:Value}(h:u.oneCell'=true):ARel w g ob u (.val u):=.val u h
end
theorem ARel0.one{w:World}{g:Gh}{ob:List Ob}{v:Value}{x:AV}(h:ARel0 w g ob v x)(hl:x.live=true):v.oneCell'=true:=by
 cases x with
 |val _=>exact PRel.one h
 |slc _ _=>exact PRel.one h
 |ref _=>exact PRel.one h
 |opt _=>exact PRel.one h
 |box _ _=>rw[h.1];rfl
 |row _ _=>exact h.1
 |rowk _ _ _=>exact h.1
 |rptr _ _ _ _=>exact h.1
 |kb _=>rw[show v=_ from h];rfl
 |iter _=>obtain⟨k,h1,_⟩:=h;rw[h1];cases k<;>rfl
 |clo _ _ _ t=>rw[h.1];cases t<;>rfl
 |dead=>cases hl
 |agg _=>exact h.elim
 |tup _=>exact h.elim
theorem QaV{v:Value}(h:v.oneCell'=true):v.cells=#[v]:=by cases v<;>first|rfl|cases h
theorem ARel.cells{w:World}{g:Gh}{ob:List Ob}{v:Value}{x:AV}(h:ARel w g ob v x)(hl:x.live=true):ARelC w g ob v.cells.toList x.cells:=by
 have one:∀{v:Value}{x:AV},ARel0 w g ob v x->x.live=true->x.cells=[x]->ARelC w g ob v.cells.toList x.cells:=by
  intro v x h hl hx;rw[QaV (h.one hl),hx];refine⟨rfl,fun j y u hy hu=>?_⟩
  cases j with
  |zero =>
   obtain rfl:v=y:=by simpa using hy
   obtain rfl:x=u:=by simpa using hu
   exact⟨h,h.one hl⟩
  |succ j=>simp at hu
 cases x with
 |agg cs=>obtain⟨vs,rfl,h⟩:=h;exact h
 |tup _=>cases hl
 |dead=>cases hl
 |val a=>exact one (x:=.val a) h hl rfl
 |slc a b=>exact one (x:=.slc a b) h hl rfl
 |ref a=>exact one (x:=.ref a) h hl rfl
 |opt a=>exact one (x:=.opt a) h hl rfl
 |box a b=>exact one (x:=.box a b) h hl rfl
 |row a b=>exact one (x:=.row a b) h hl rfl
 |rowk a b c=>exact one (x:=.rowk a b c) h hl rfl
 |rptr a b c d=>exact one (x:=.rptr a b c d) h hl rfl
 |kb a=>exact one (x:=.kb a) h hl rfl
 |iter a=>exact one (x:=.iter a) h hl rfl
 |clo a b c d=>exact one (x:=.clo a b c d) h hl rfl
theorem Qgi(v:Value):QmI v=v.oneCell':=by cases v<;>rfl
def QW(w:World)(g:Gh)(s:St)(a:Act):Prop:=∀t,ARel w g s.ob (a.tmps.getD t undef) (lk t s.tm)
theorem Qo{w:World}{g:Gh}{s:St}{a:Act}(hS:QW w g s a)(x:Operand):ARel w g s.ob (a.eval x) (ev s x):=by
 cases x with
 |tmp t =>
  have h:=hS t;simp only[ev,Act.eval];cases hl:lk t s.tm with
  |kb b =>
   rw[hl]at h;have h:a.tmps.getD t undef=.bool b:=h;rw[h];exact .val _ rfl
  |_=>rw[hl]at h;exact h
 |const v =>
  simp only[ev,Act.eval];split
  ·rename_i h;exact .val _ (by rw[<-Qgi];exact h)
  ·split
   ·rename_i cs _
    split
    ·rename_i h
     refine⟨cs,rfl,by simp,fun j y u hy hu=>?_⟩
     rw[List.getElem?_map,hy]at hu;obtain rfl:AV.val y=u:=by simpa using hu
     have xR:y.oneCell'=true:=by rw[<-Qgi];exact List.all_eq_true.1 h y (List.mem_of_getElem? hy)
     exact⟨.val _ xR,xR⟩
    ·trivial
   ·trivial
 |global g=>trivial
 |func f=>exact .val _ rfl
theorem Q90{q:Nat->Value->Prop}:∀n,(∀j,j<n->∃y,q j y)->∃l:List Value,l.length=n/\∀(j:Nat) y,l[j]?=some y->q j y
 |0,_=>⟨[],rfl,fun j y h=>by simp at h⟩
 |n+1,h=>by
  obtain⟨l,h1,h2⟩:=Q90 n (fun j hj=>h j (by omega))
  obtain⟨y,hy⟩:=h n (by omega)
  refine⟨l++[y],by simp[h1],fun j z hz=>?_⟩
  by_cases hj:j<l.length
  ·rw[List.getElem?_append_left hj]at hz;exact h2 j z hz
  ·rw[List.getElem?_append_right (by omega)]at hz
   have:j=n:=by
    have:=Q4 hz
    simp at this;omega
   subst this;rw[h1,Nat.sub_self]at hz;simp at hz;subst hz;exact hy
theorem Q5N{sz:Nat}:∀(xs:List AV),(∀x∈xs,x.cells.length=sz)->∀(i:Nat) x,xs[i]?=some x->∀k,k<sz->(Qp xs)[i * sz+k]?=x.cells[k]?
 | [],_,i,x,h,_,_=>by simp at h
 |y::r,hw,0,x,h,k,hk=>by
  simp at h;subst h;rw[Qp,flatMap_cons,List.getElem?_append_left (by rw[hw _ mem_cons_self];omega)]
  simp
 |y::r,hw,i+1,x,h,k,hk=>by
  rw[Qp,flatMap_cons,List.getElem?_append_right (by rw[hw _ mem_cons_self,succ_mul];omega),hw _ mem_cons_self]
  have:=Q5N r (fun x h=>hw x (mem_cons_of_mem _ h)) i x (by simpa using h) k hk
  rw[<-this];congr 1
  rw[succ_mul];omega
theorem RowV.cell{w:World}{g:Gh}{id et sz:Nat}{b c n:Nat}{xs:List AV}(h:RowV w g id et sz (.slice (some ⟨b,0,none⟩) n c) xs) :
  ∀(j:Nat) u,(Qp xs)[j]?=some u->∃y,w.cell? ⟨b,j,none⟩=some y/\PRel w g.A y u:=by
 obtain⟨ys,ho,hG,jT,hw⟩:=h;intro j u hu;have jE:j<ys.length:=by rw[jT.1];exact Q4 hu
 have:=ho.cells (g:=b) rfl j ys[j] (getElem?_eq_getElem jE)
 rw[Addr.add_mid,Nat.zero_add]at this;exact⟨_,this,jT.2 j _ u (getElem?_eq_getElem jE) hu⟩
section
variable {w:World}{g:Gh}{s:St}{v:Value}{x:AV}
theorem Q8K(M:Mem w g s.ob)(hv:ARel w g s.ob v x){cs:List AV}(h:Q7k s x=some cs) :
  ∃b o,v=.pointer (some ⟨b,o,none⟩)/\∀(j:Nat) u,cs[j]?=some u->∃y,w.cell? ⟨b,o+j,none⟩=some y/\ARel0 w g s.ob y u/\y.oneCell'=true:=by
 cases x<;>simp only[Q7k]at h<;>try (cases h;done)
 case ref l =>
  obtain rfl:l=cs:=by simpa using h
  cases(show PRel w g.A v (.ref l) from hv)with
  |ref b o cs f hcell hrel=>exact⟨b,o,rfl,fun j u hu=>⟨f j,(hcell j u hu).2,(hrel j u hu).to0,(hrel j u hu).one⟩⟩
 case box id off =>
  obtain⟨rfl,_⟩:v=.pointer (some ⟨g.loc id,off,none⟩)/\_:=hv;refine⟨_,_,rfl,?_⟩;cases jK:s.ob[id]? with
  |none=>simp[jK]at h
  |some o =>
   cases o<;>simp[jK]at h
   case box c =>
    subst h;intro j u hu;obtain⟨h1,cur,T,h2,h3,h4⟩:=M.box id c jK;rw[getElem?_drop]at hu;have jE:off+j<cur.size:=by have:=Q4 hu;rw[<-h3]at this;simpa using this
    refine⟨cur[off+j],by simp[World.cell?,h2,jE],h4 (off+j) _ u (by simp[jE]) hu⟩
   case fbox c =>
    subst h;intro j u hu;rw[getElem?_drop]at hu;obtain⟨_,y,h2,h3⟩:=M.fbox id c jK _ u hu;exact⟨y,h2,h3.to0,h3.one⟩
theorem Qbk{id ep off et sz e:Nat}{fz:Bool}{i:Int}{xs:List AV}(hv:ARel w g s.ob v (.rptr id ep i off))(h1:s.ob[id]?=some (.row et sz fz e xs))(he:e=ep):∃b o,v=.pointer (some ⟨b,o,none⟩):=by
 obtain⟨_,et,sz,fz,e,xs,vl,h2,h3⟩:=hv;rw[h1]at vl;cases vl;obtain⟨b,c,h4,_⟩:=h3 he;exact⟨b,_,h4⟩
theorem Qkt{id ep off et sz e:Nat}{fz:Bool}{i:Int}{xs:List AV}{b u:Nat}(hv:ARel w g s.ob (.pointer (some ⟨b,u,none⟩)) (.rptr id ep i off))(h1:s.ob[id]?=some (.row et sz fz e xs))(he:e=ep)(d:Nat) :
  ARel w g s.ob (.pointer (some ⟨b,u+d,none⟩)) (.rptr id ep i (off+d)):=by
 obtain⟨_,et,sz,fz,e,xs,vl,h2,h3⟩:=hv;rw[h1]at vl;cases vl;obtain⟨b',c,h4,h5,h6,h7⟩:=h3 he;refine⟨rfl,_,_,_,_,_,h1,h2,fun _=>⟨b',c,?_,h5,h6,h7⟩⟩
 simp only[Value.pointer.injEq,Option.some.injEq,Addr.mk.injEq]at h4 ⊢;obtain⟨rfl,rfl,_⟩:=h4;exact⟨rfl,by omega,trivial⟩
theorem Qet(M:Mem w g s.ob){id ep off et sz e:Nat}{fz:Bool}{i:Int}{xs:List AV}(hv:ARel w g s.ob v (.rptr id ep i off))(h1:s.ob[id]?=some (.row et sz fz e xs))(he:e=ep) :
  ∃b o,v=.pointer (some ⟨b,o,none⟩)/\∀(j:Nat) u,(std.drp (std.cel (std.at_ xs i)) off)[j]?=some u->∃y,w.cell? ⟨b,o+j,none⟩=some y/\PRel w g.A y u:=by
 obtain⟨_,et,sz,fz,e,xs,vl,h2,h3⟩:=hv;rw[h1]at vl;cases vl;obtain⟨b,c,rfl,h4,h5,h6⟩:=h3 he;refine⟨b,_,rfl,fun j u hu=>?_⟩
 have hi:xs[i.toNat]?=some (xs.getD i.toNat .dead):=by
  have:i.toNat<xs.length:=by omega
  rw[List.getD_eq_getElem?_getD,getElem?_eq_getElem this];rfl
 have hw:=(M.roww _ _ _ _ _ _ h1).2;have hu:((xs.getD i.toNat .dead).cells.drop off)[j]?=some u:=hu;rw[getElem?_drop]at hu
 have hk:off+j<sz:=by
  have:=Q4 hu
  rw[<-hw _ (List.mem_of_getElem? hi)];exact this
 have:=Q5N xs hw i.toNat _ hi (off+j) hk
 obtain⟨y,h7,h8⟩:=h6.cell _ u (this.trans hu);rw[<-Nat.add_assoc]at h7;exact⟨y,h7,h8⟩
theorem Qh1{cs:List AV}(hv:ARel w g s.ob v (.ref cs)):∃b o,v=.pointer (some ⟨b,o,none⟩)/\∀(j:Nat) u,cs[j]?=some u->∃y,w.cell? ⟨b,o+j,none⟩=some y/\PRel w g.A y u:=by
 cases(show PRel w g.A v (.ref cs) from hv)with
 |ref b o cs f hcell hrel=>exact⟨b,o,rfl,fun j u hu=>⟨f j,(hcell j u hu).2,hrel j u hu⟩⟩
theorem QcD{A:Nat->Nat->Prop}{v:Value}{x:AV}(h:PRel w A v x)(hp:Q5K x) :
  (Q8z x=true/\v=.pointer none)\/(Q8z x=false/\∃b o,v=.pointer (some ⟨b,o,none⟩)/\PRel w A v (.ref (Qfs x))):=by
 induction h with
 |val v hv =>
  cases v with
  |pointer p =>
   cases p with
   |none=>exact .inl ⟨rfl,rfl⟩
   |some _=>exact(show False from hp).elim
  |_=>exact(show False from hp).elim
 |nil sz=>exact(show False from hp).elim
 |slc=>exact(show False from hp).elim
 |ref b o cs f h1 h2=>exact .inr ⟨rfl,b,o,rfl,.ref b o cs f h1 h2⟩
 |opt v x h hx ih=>exact ih hx
theorem PRel.ofOpt{A:Nat->Nat->Prop}{v:Value}{x:AV}(h:PRel w A v (.opt x)):PRel w A v x/\Q5K x:=by
 cases h with
 |opt _ _ h1 h2=>exact⟨h1,h2⟩
theorem QjT{v:Value}{c:AV}(h:PRel w g.A v c){l:Lf}(hl:l.has std c):PRel w g.A v (l.exp std c):=by
 cases l with
 |int k =>
  have e:c=.val (.int k (intOf c)):=hl;show PRel w g.A v (.val (.int k (intOf c)));rw[<-e];exact h
 |boo =>
  have e:c=.val (.bool (Q8M c)):=hl;show PRel w g.A v (.val (.bool (Q8M c)));rw[<-e];exact h
 |str =>
  have e:c=.val (.string (Qdc c)):=hl;show PRel w g.A v (.val (.string (Qdc c)));rw[<-e];exact h
 |slc sz =>
  show PRel w g.A v (.slc sz (Q3z c));rcases(show c=.slc sz (Q3z c)\/c=.val (.slice none 0 0) from hl)with e|e
  ·rw[<-e];exact h
  ·subst e
   cases h;exact PRel.nil sz
 |ptr =>
  show PRel w g.A v (.opt (QnK c));cases c<;>first|exact h|exact PRel.opt _ _ h hl
theorem QdU{b o:Nat}{cs:List AV}(hc:∀(j:Nat) u,cs[j]?=some u->∃y,w.cell? ⟨b,o+j,none⟩=some y/\PRel w g.A y u) :
  ∀(ls:List Lf)(k:Nat),Q3R (Q87 std cs k ls)->∀(j:Nat) u,(Q8N std cs k ls)[j]?=some u->∃y,w.cell? ⟨b,o+(k+j),none⟩=some y/\ARel0 w g s.ob y u/\y.oneCell'=true
 | [],_,_,j,u,hu=>by simp[Q8N]at hu
 |l::r,k,h,j,u,hu=>by
  obtain⟨h1,h2⟩:=h;cases j with
  |zero =>
   obtain rfl:l.exp std (std.nth cs k)=u:=by simpa[Q8N]using hu
   have hk:cs[k]?=some (std.nth cs k):=by
    show cs[k]?=some (cs.getD k .dead);rw[List.getD_eq_getElem?_getD];cases hx:cs[k]? with
    |some x=>rfl
    |none =>
     exfalso;have e:std.nth cs k=.dead:=by show cs.getD k .dead=.dead;rw[List.getD_eq_getElem?_getD,hx];rfl
     rw[e]at h1;cases l with
     |int _=>exact AV.noConfusion (show AV.dead=_ from h1)
     |boo=>exact AV.noConfusion (show AV.dead=_ from h1)
     |str=>exact AV.noConfusion (show AV.dead=_ from h1)
     |slc _=>rcases(show AV.dead=_\/AV.dead=_ from h1)with h|h<;>cases h
     |ptr=>exact h1
   obtain⟨y,h3,h4⟩:=hc k _ hk;have:=QjT h4 h1
   exact⟨y,h3,this.to0,this.one⟩
  |succ j =>
   obtain⟨y,h3,h4⟩:=QdU hc r (k+1) h2 j u (by simpa[Q8N]using hu)
   exact⟨y,by rw[show k+(j+1)=k+1+j by omega];exact h3,h4⟩
theorem QcH(cs:List AV):∀(ls:List Lf)(k:Nat),(Q8N std cs k ls).length=ls.length
 | [],_=>rfl
 |l::r,k=>by simp[Q8N,QcH cs r]
theorem Q40(M:Mem w g s.ob)(hv:ARel w g s.ob v x){sz:Nat}{xs:List AV}(h:Q6G std s x=some (sz,xs)) :
  ∃A c ys,v=.slice A xs.length c/\Rd w (fun _=>True) sz A xs.length c ys/\Alike w g.A ys (Qp xs):=by
 have own:∀{id et:Nat}{v:Value}{xs:List AV},RowV w g id et sz v xs->∃A c ys,v=.slice A xs.length c/\Rd w (fun _=>True) sz A xs.length c ys/\Alike w g.A ys (Qp xs):=by
  intro id et v xs h;obtain⟨ys,ho,hG,jT,hw⟩:=h;obtain⟨A,c,rfl,hr⟩:=Q14 ho;exact⟨A,c,ys,rfl,hr.more fun _ _=>trivial,jT⟩
 cases x<;>simp only[Q6G]at h<;>try (cases h;done)
 case slc sz' l =>
  obtain⟨rfl,rfl⟩:sz'=sz/\l=xs:=by simpa using h
  cases(show PRel w g.A v (.slc sz' l) from hv)with
  |nil=>exact⟨none,0,[],rfl,⟨by simp,le_refl _,Nat.zero_le _,fun _=>rfl,fun h=>absurd h (by simp)⟩,Alike.nil⟩
  |slc b o c _ _ f hc hm hw hcell hrel =>
   obtain⟨ys,h1,h2⟩:=Q90 (q:=fun j y=>∃u,(Qp l)[j]?=some u/\y=f j) (Qp l).length (fun j hj=>⟨f j,_,getElem?_eq_getElem hj,rfl⟩)
   refine⟨_,c,ys,rfl,⟨by rw[h1,Q22 l hw],hc,hm,fun h=>(by cases h),fun _=>⟨b,o,rfl,trivial,fun j u hu=>?_⟩⟩,h1,fun j y u hy hu=>?_⟩
   ·obtain⟨u',j0,rfl⟩:=h2 j u hu
    exact(hcell j u' j0).2
   ·obtain⟨u',j0,rfl⟩:=h2 j y hy
    exact hrel j u hu
 case row id ep =>
  obtain⟨_,et,sz',fz,e,xs',h1,h2,h3⟩:=hv;simp only[h1]at h;split at h
  ·rename_i he
   obtain⟨rfl,rfl⟩:sz'=sz/\xs'=xs:=by simpa using h
   exact own (h3 he)
  ·cases h
 case rowk id ep k =>
  obtain⟨_,et,sz',fz,e,xs',h1,h2,h3⟩:=hv;simp only[h1]at h;split at h
  ·rename_i he
   obtain⟨rfl,hx⟩:sz'=sz/\std.cut xs' 0 k=xs:=by simpa using h
   obtain⟨h4,h5,h6⟩:=h3 he;have e:std.cut xs' 0 k=xs'.take k.toNat:=by simp[std]
   rw[e]at hx;subst hx;exact own h6
  ·cases h
end
