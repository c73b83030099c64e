/-
  Parts of the proof, joined: Aa Ab Ac Ad Ae Af Ag Ah Ai Aj Ak Al Am. Conditions: as each theorem says.
-/
import GoSem.Core.Code
import GoSem.Core.Utf8
import GoSem.Instr.Build
import GoSem.Op.IntBits
import GoSem.Op.Shift
import Derived.Test.YthbjpdijafccjaaGreatQE01
import Derived.Laws.Cover4
import Derived.Deep.MidRow
import Derived.Lib.SliceRun
import Derived.Laws.Small
import Derived.Lib.AppendStr
set_option maxRecDepth 100000
set_option maxHeartbeats 8000000
namespace Go.Proofs.YthbjpdijafccjaaGreat
theorem exq {α:Sort _}(a:α):∃ x,x=a:=⟨a,rfl⟩
inductive AV where
 |val (v:Value)
 |slc (sz:Nat) (xs:List AV)
 |agg (cs:List AV)
 |ref (cs:List AV)
 |tup (vs:List AV)
 |box (id off:Nat)
 |row (id ep:Nat)
 |rowk (id ep:Nat) (k:Int)
 |rptr (id ep:Nat) (i:Int) (off:Nat)
 |kb (t:Bool)
 |iter (id:Nat)
 |opt (x:AV)
 |dead
 deriving Inhabited
def AV.cells:AV→List AV
 |.agg cs=>cs
 |x=>[x]
def AV.live:AV→Bool
 |.dead=>false
 |.tup _=>false
 |_=>true
def AV.pur0:AV→Bool
 |.val _=>true
 |.slc _ _=>true
 |.ref _=>true
 |.opt _=>true
 |_=>false
def AV.pur:AV→Bool
 |.agg cs=>cs.all AV.pur0
 |x=>x.pur0
inductive Ob where
 |box (cs:List AV)
 |fbox (cs:List AV)
 |row (et sz:Nat) (fz:Bool) (ep:Nat) (xs:List AV)
 |iter (s:ByteArray) (pos:Nat)
 |gone
 deriving Inhabited
structure St where
 tm:List (Nat×AV)
 ob:List Ob
structure TI where
 size:Nat
 agg:Bool
 elem:Nat
 flds:List (Nat×Nat)
 zero:List Value
 kind:Option IntKind
 bytes:Nat
 sl:Bool
 kd:Nat
 ok:Bool:=true
structure DP where
 q:Prop
 b:Bool
 h:b=true↔q
instance:CoeSort DP Prop:=⟨DP.q⟩
structure Pr where
 eqI:Int→Int→Bool
 ltI:Int→Int→Bool
 leI:Int→Int→Bool
 add:Int→Int→Int
 sub:Int→Int→Int
 mul:Int→Int→Int
 quo:Int→Int→Int
 rem:Int→Int→Int
 inR:IntKind→Int→DP
 nz:Int→DP
 wrap:IntKind→Int→Int
 minI:Int→Int→Int
 maxI:Int→Int→Int
 notB:Bool→Bool
 eqB:Bool→Bool→Bool
 andB:Bool→Bool→Bool
 bits:BinOp→IntKind→Int→Int→Int
 shl:IntKind→Int→Int→Int
 shr:Int→Int→Int
 nn:Int→DP
 emp:List AV→DP
 eqS:ByteArray→ByteArray→Bool
 catS:ByteArray→ByteArray→ByteArray
 catok:ByteArray→ByteArray→DP
 szS:ByteArray→Int
 idxS:ByteArray→Int→Int
 cutS:ByteArray→Int→Int→ByteArray
 bytesS:ByteArray→List AV
 strB:List AV→ByteArray
 isB:List AV→DP
 strR:List AV→ByteArray
 encS:Int→ByteArray
 isR:List AV→DP
 len:List AV→Int
 at_:List AV→Int→AV
 inb:Int→Int→DP
 cut:List AV→Int→Int→List AV
 cutok:Int→Int→Int→DP
 app:List AV→List AV→List AV
 bnd:List AV→List AV→DP
 more:List AV→DP
 itmore:ByteArray→Nat→Bool
 itr:ByteArray→Nat→Int
 itp:ByteArray→Nat→Nat
 toI:Nat→Int
 szok:ByteArray→DP
 nth:List AV→Nat→AV
 cel:AV→List AV
 drp:List AV→Nat→List AV
 int:AV→Int
 boo:AV→Bool
 str:AV→ByteArray
 lst:AV→List AV
 prf:AV→List AV
 isN:AV→Bool
 uno:AV→AV
 hasI:IntKind→AV→DP
 hasB:AV→DP
 hasS:AV→DP
 hasL:Nat→AV→DP
 hasP:AV→DP
 hasR:AV→DP
 all:List DP→DP
def lk (t:Nat):List (Nat×AV)→AV
 | []=>.dead
 |(u,x)::r=>if t=u then x else lk t r
def Qmm:Value→Bool
 |.agg _|.tuple _=>false
 |_=>true
def ev (s:St):Operand→AV
 |.tmp t=>match lk t s.tm with|.kb b=>.val (.bool b)|x=>x
 |.const v=>if Qmm v then .val v else .dead
 |.global _=>.dead
 |.func f=>.val (.func (.func f) #[] #[])
def evk (s:St):Operand→AV
 |.tmp t=>lk t s.tm
 |.const (.bool b)=>.kb b
 |x=>ev s x
abbrev Tys:=Unit→List (Nat×TI)
def Q67 (t:Nat):List (Nat×TI)→TI
 | []=>⟨0,false,0,[],[],none,0,false,0,false⟩
 |(u,x)::r=>if t=u then x else Q67 t r
def Q4 (t:Nat)(ty:Tys):TI:=Q67 t (ty ())
inductive Lf where
 |int (k:IntKind)
 |boo
 |str
 |slc (sz:Nat)
 |ptr
inductive Ex where
 |normal
 |exit (id:Nat)
 |ret
inductive Srt where
 |int (k:IntKind)
 |boo
 |str
inductive Tree where
 |leaf (e:Ex) (s:St)
 |br (c:Bool) (t f:Tree)
 |need (q:DP) (t:Tree)
 |call (f:Nat) (args:List AV) (ob:List Ob) (res:AV) (ob':List Ob) (t:Tree)
 |both (a b:Tree)
 |either (q:DP) (a b:Tree)
 |ask (T:Nat) (sh:List Srt) (t:Tree)
 |loop (body:Code) (s:St) (K:Ex→St→Tree)
 |stuck (n:Nat)
def Q5C:Nat:=62
def Qgi:Nat:=3
def Q8N:List AV→Bool
 | []=>true
 |x::r=>match x.cells with
  | [_,.val (.slice none 0 0)]=>Q8N r
  |_=>false
def Qa8 (E:Nat)(xs:List AV):Bool:=if E=Q5C then Q8N xs else true
def setCells (cs:List AV)(off:Nat)(new:List AV):List AV:=cs.take off++new++cs.drop (off+new.length)
def St.put (s:St)(d:Option Nat)(x:AV):St:=match d with|some t=>⟨(t,x)::s.tm,s.ob⟩|none=>s
section
variable (p:Pr) (ty:Tys)
def mk (T:Nat)(cs:List AV):AV :=
 if (Q4 T ty).agg then .agg (cs.take (Q4 T ty).size) else cs.headD .dead
def Q7L (s:St):AV→Option (List AV)
 |.ref cs=>some cs
 |.box id off=>match s.ob[id]? with|some (.box cs)|some (.fbox cs)=>some (cs.drop off)|_=>none
 |_=>none
def Qe9:Nat→Nat→Option (List Lf)
 |0,_=>none
 |n+1,T=>match (Q4 T ty).kd with
  |1=>(Q4 T ty).flds.foldl (fun acc f=>match acc,Qe9 n f.2 with
   |some a,some b=>some (a++b)
   |_,_=>none) (some [])
  |2=>some [.slc (Q4 (Q4 T ty).elem ty).size]
  |3=>match (Q4 T ty).kind with
   |some k=>some [.int k]
   |none=>none
  |4=>some [.ptr]
  |5=>some [.boo]
  |6=>some [.str]
  |_=>none
def QlQ (T:Nat):Bool:=match (Q4 T ty).kd with
 |4=>true
 |1=>(match Qe9 ty 5 T with
  |some ls=>ls.any fun|.ptr=>true|_=>false
  |none=>true)
 |_=>false
def Lf.exp (c:AV):Lf→AV
 |.int k=>.val (.int k (p.int c))
 |.boo=>.val (.bool (p.boo c))
 |.str=>.val (.string (p.str c))
 |.slc sz=>.slc sz (p.lst c)
 |.ptr=>.opt (p.uno c)
def Lf.has (c:AV):Lf→DP
 |.int k=>p.hasI k c
 |.boo=>p.hasB c
 |.str=>p.hasS c
 |.slc sz=>p.hasL sz c
 |.ptr=>p.hasP c
def Qat (cs:List AV):Nat→List Lf→List AV
 |_,[]=>[]
 |j,l::r=>l.exp p (p.nth cs j)::Qat cs (j+1) r
def QbC (cs:List AV):Nat→List Lf→List DP
 |_,[]=>[]
 |j,l::r=>l.has p (p.nth cs j)::QbC cs (j+1) r
def Qlb (T:Nat)(cs:List AV):Option (Option DP×AV) :=
 match Qe9 ty 5 T with
 |some ls=>if (Q4 T ty).ok=true∧ls.length=(Q4 T ty).size then some (some (p.all (QbC p cs 0 ls)),mk ty T (Qat p cs 0 ls)) else none
 |none=>none
def Q6W (s:St):AV→Option (Nat×List AV)
 |.slc sz xs=>some (sz,xs)
 |.row id ep=>match s.ob[id]? with|some (.row _ sz _ e xs)=>if e=ep then some (sz,xs) else none|_=>none
 |.rowk id ep k=>match s.ob[id]? with|some (.row _ sz _ e xs)=>if e=ep then some (sz,p.cut xs 0 k) else none|_=>none
 |_=>none
def Qlv (op:BinOp)(k:IntKind)(a b:Int):Option (Option DP×Value) :=
 match op with
 |.add=>some (some (p.inR k (p.add a b)),.int k (p.add a b))
 |.sub=>some (some (p.inR k (p.sub a b)),.int k (p.sub a b))
 |.mul=>some (some (p.inR k (p.mul a b)),.int k (p.mul a b))
 |.eql=>some (none,.bool (p.eqI a b))
 |.neq=>some (none,.bool (p.notB (p.eqI a b)))
 |.lss=>some (none,.bool (p.ltI a b))
 |.leq=>some (none,.bool (p.leI a b))
 |.gtr=>some (none,.bool (p.ltI b a))
 |.geq=>some (none,.bool (p.leI b a))
 |.and=>some (none,.int k (p.bits .and k a b))
 |.or=>some (none,.int k (p.bits .or k a b))
 |.xor=>some (none,.int k (p.bits .xor k a b))
 |.andNot=>some (none,.int k (p.bits .andNot k a b))
 |.quo=>some (some (p.all [p.nz b,p.inR k (p.quo a b)]),.int k (p.quo a b))
 |.rem=>some (some (p.all [p.nz b,p.inR k (p.rem a b)]),.int k (p.rem a b))
 |_=>none
def Qm0 (s:St)(x y:Operand):Option (List AV):=match ev s x,ev s y with
 |.slc _ xs,.val (.slice none _ _)=>some xs
 |_,_=>none
def Qmi (s:St)(T:Nat)(op:BinOp):AV→AV→Option (Option DP×AV)
 |.val (.int k a),.val (.int k' b)=>match op with
  |.shl=>some (some (p.nn b),.val (.int k (p.shl k a b)))
  |.shr=>some (some (p.nn b),.val (.int k (p.shr a (p.minI (p.toI k.bits) b))))
  |op=>if k=k' then (Qlv p op k a b).map fun (q,v)=>(q,.val v) else none
 |.val (.string a),.val (.string b)=>match op with
  |.eql=>some (none,.val (.bool (p.eqS a b)))
  |.neq=>some (none,.val (.bool (p.notB (p.eqS a b))))
  |.add=>some (some (p.catok a b),.val (.string (p.catS a b)))
  |_=>none
 |.val (.bool a),.val (.bool b)=>if (Q4 T ty).kd=5 then (match op with
  |.eql=>some (none,.val (.bool (p.eqB a b)))
  |.neq=>some (none,.val (.bool (p.notB (p.eqB a b))))
  |_=>none) else none
 |.val (.slice none _ _),.val (.slice none _ _)=>if (Q4 T ty).kd=2 then (match op with
  |.eql=>some (none,.val (.bool true))
  |.neq=>some (none,.val (.bool false))
  |_=>none) else none
 |.val (.pointer none),.val (.pointer none)=>if (Q4 T ty).kd=4 then (match op with
  |.eql=>some (none,.val (.bool true))
  |.neq=>some (none,.val (.bool false))
  |_=>none) else none
 |.ref _,.val (.pointer none)|.box _ _,.val (.pointer none)=>if (Q4 T ty).kd=4 then (match op with
  |.eql=>some (none,.val (.bool false))
  |.neq=>some (none,.val (.bool true))
  |_=>none) else none
 |.opt x,.val (.pointer none)=>if (Q4 T ty).kd=4 then (match op with
  |.eql=>some (none,.val (.bool (p.isN x)))
  |.neq=>some (none,.val (.bool (p.notB (p.isN x))))
  |_=>none) else none
 |x,.val (.slice none _ _)=>match Q6W p s x with
  |some (_,xs)=>if (Q4 T ty).kd=2 then (match op with
   |.eql=>some (some (p.more xs),.val (.bool false))
   |.neq=>some (some (p.more xs),.val (.bool true))
   |_=>none) else none
  |none=>none
 |_,_=>none
def eqC:AV→AV→Option (Srt×Bool)
 |.val (.int k a),.val (.int k' b)=>if k=k' then some (.int k,p.eqI a b) else none
 |.val (.bool a),.val (.bool b)=>some (.boo,p.eqB a b)
 |.val (.string a),.val (.string b)=>some (.str,p.eqS a b)
 |_,_=>none
def Qis:List AV→List AV→Option (List Srt×Bool)
 | [],[]=>some ([],true)
 |x::r,y::r'=>match eqC p x y,Qis r r' with
  |some (s,a),some (ss,b)=>some (s::ss,p.andB a b)
  |_,_=>none
 |_,_=>none
def Qik (s:St)(op:BinOp)(x y:Operand):Option (List Srt×Bool):=match ev s x,ev s y with
 |.agg cs,.agg ds=>match Qis p cs ds with
  |some (sh,b)=>match op with
   |.eql=>some (sh,b)
   |.neq=>some (sh,p.notB b)
   |_=>none
  |none=>none
 |_,_=>none
def QaZ (flds:List (Nat×Nat))(cs:List AV):List (Nat×AV)→Option (List AV)
 | []=>some cs
 |(i,x)::r=>match flds[i]? with
  |some (off,t)=>if x.live=true∧(Q4 t ty).ok=true∧x.cells.length=(Q4 t ty).size∧off+x.cells.length≤cs.length then QaZ flds (setCells cs off x.cells) r else none
  |none=>none
def Q60 (T sz:Nat):Bool:=(Q4 T ty).ok&&(Q4 T ty).sl&&(Q4 (Q4 T ty).elem ty).ok&&sz == (Q4 (Q4 T ty).elem ty).size&&sz != 0
def fOk (t:Nat):Bool:=(Q4 t ty).ok&&(Q4 t ty).size != 0
def Q2E (s:St):Op→Option (Option DP×AV)
 |.move x|.assign x=>some (none,evk s x)
 |.pick c a b=>match ev s c with
  |.val (.bool t)=>some (none,match t with|true=>evk s a|false=>evk s b)
  |_=>none
 |.build T parts=>if (Q4 T ty).ok=true∧(Q4 T ty).kd=1 then
   (QaZ ty (Q4 T ty).flds ((Q4 T ty).zero.map .val) (parts.toList.map fun (i,x)=>(i,ev s x))).map fun cs=>(none,.agg cs)
  else if (Q4 T ty).ok=true∧100≤(Q4 T ty).kd∧(Q4 (Q4 T ty).elem ty).ok=true then
   (QaZ ty ((List.range ((Q4 T ty).kd-100)).map fun i=>(i * (Q4 (Q4 T ty).elem ty).size,(Q4 T ty).elem)) ((Q4 T ty).zero.map .val) (parts.toList.map fun (i,x)=>(i,ev s x))).map fun cs=>(none,.agg cs)
  else none
 |.load T a=>match ev s a with
  |.ref cs=>Qlb p ty T cs
  |.rptr id ep i off=>match s.ob[id]? with
   |some (.row _ _ _ e xs)=>if e=ep then Qlb p ty T (p.drp (p.cel (p.at_ xs i)) off) else none
   |_=>none
  |x=>match Q7L s x with
   |some cs=>if (Q4 T ty).ok=true∧(if (Q4 T ty).agg then (Q4 T ty).size else 1)≤cs.length then some (none,mk ty T cs) else none
   |none=>none
 |.nilCheck x=>match ev s x with
  |.ref cs=>some (none,.ref cs)
  |.box id o=>some (none,.box id o)
  |.opt x=>some (some (p.hasR x),.ref (p.prf x))
  |.rptr id ep i off=>match s.ob[id]? with
   |some (.row _ _ _ e _)=>if e=ep then some (none,.rptr id ep i off) else none
   |_=>none
  |.val (.func (.func g) a c)=>some (none,.val (.func (.func g) a c))
  |_=>none
 |.binOp op T x y _=>Qmi p ty s T op (ev s x) (ev s y)
 |.unOp op _ x=>match op,ev s x with
  |.not,.val (.bool b)=>some (none,.val (.bool (p.notB b)))
  |.neg,.val (.int k n)=>some (some (p.inR k (p.sub 0 n)),.val (.int k (p.sub 0 n)))
  |_,_=>none
 |.convert src dst x=>if (Q4 src ty).ok then (match ev s x with
  |.val (.int _ n)=>match (Q4 dst ty).kind with
   |some k=>some (none,.val (.int k (p.wrap k n)))
   |none=>if (Q4 dst ty).kd=6 then some (none,.val (.string (p.encS n))) else none
  |.val (.string b)=>if (Q4 dst ty).kd=6 then some (none,.val (.string b)) else none
  |v=>match Q6W p s v with
   |some (1,xs)=>if (Q4 dst ty).kd=6∧(Q4 src ty).sl=true then (match (Q4 (Q4 src ty).elem ty).kind with
    |some .u8=>some (some (p.isB xs),.val (.string (p.strB xs)))
    |some .i32=>some (some (p.isR xs),.val (.string (p.strR xs)))
    |_=>none) else none
   |_=>none) else none
 |.makeFunc fn first captured=>if first.isEmpty∧captured.isEmpty then some (none,.val (.func fn #[] #[])) else none
 |.fieldAddr T x f=>match (Q4 T ty).flds[f]? with
  |some (off,t)=>match ev s x with
   |.ref cs=>if fOk ty t then some (none,.ref (p.drp cs off)) else none
   |.box id o=>if fOk ty t then some (none,.box id (o+off)) else none
   |.rptr id ep i o=>match s.ob[id]? with
    |some (.row _ _ _ e _)=>if e=ep∧fOk ty t=true then some (none,.rptr id ep i (o+off)) else none
    |_=>none
   |_=>none
  |none=>none
 |.field T x f=>match (Q4 T ty).flds[f]?,ev s x with
  |some (off,t),.agg cs=>if (Q4 t ty).ok=true∧off+(if (Q4 t ty).agg then (Q4 t ty).size else 1)≤cs.length then some (none,mk ty t (cs.drop off)) else none
  |_,_=>none
 |.indexAddr T x i=>match ev s i with
  |.val (.int _ k)=>match ev s x with
   |.slc sz xs=>if Q60 ty T sz=true then some (some (p.inb k (p.len xs)),.ref (p.cel (p.at_ xs k))) else none
   |.row id ep=>match s.ob[id]? with
    |some (.row _ sz _ e xs)=>if e=ep∧Q60 ty T sz=true then some (some (p.inb k (p.len xs)),.rptr id ep k 0) else none
    |_=>none
   |_=>none
  |_=>none
 |.index T x i=>match ev s x,ev s i with
  |.agg cs,.val (.int _ k) =>
   if 100≤(Q4 T ty).kd∧(Q4 (Q4 T ty).elem ty).ok=true∧0≤k∧k<((Q4 T ty).kd-100:Nat)∧k.toNat * (Q4 (Q4 T ty).elem ty).size+(if (Q4 (Q4 T ty).elem ty).agg then (Q4 (Q4 T ty).elem ty).size else 1)≤cs.length then
    some (none,mk ty (Q4 T ty).elem (cs.drop (k.toNat * (Q4 (Q4 T ty).elem ty).size))) else none
  |.val (.string b),.val (.int _ k)=>if (Q4 T ty).kd=6 then some (some (p.inb k (p.szS b)),.val (.int .u8 (p.idxS b k))) else none
  |_,_=>none
 |.slice T x lo hi none=>match ev s x with
  |.val (.string b)=>if (Q4 T ty).kd=6 then (match lo.map (ev s),hi.map (ev s) with
   |none,none=>some (none,.val (.string b))
   |some (.val (.int _ l)),none=>some (some (p.cutok l (p.szS b) (p.szS b)),.val (.string (p.cutS b l (p.szS b))))
   |none,some (.val (.int _ h))=>some (some (p.cutok 0 h (p.szS b)),.val (.string (p.cutS b 0 h)))
   |some (.val (.int _ l)),some (.val (.int _ h))=>some (some (p.cutok l h (p.szS b)),.val (.string (p.cutS b l h)))
   |_,_=>none) else none
  |.slc sz xs=>if Q60 ty T sz=true then (match lo.map (ev s),hi.map (ev s) with
   |none,none=>some (none,.slc sz xs)
   |some (.val (.int _ l)),none=>some (some (p.cutok l (p.len xs) (p.len xs)),.slc sz (p.cut xs l (p.len xs)))
   |none,some (.val (.int _ h))=>some (some (p.cutok 0 h (p.len xs)),.slc sz (p.cut xs 0 h))
   |some (.val (.int _ l)),some (.val (.int _ h))=>some (some (p.cutok l h (p.len xs)),.slc sz (p.cut xs l h))
   |_,_=>none) else none
  |.row id ep=>match s.ob[id]? with
   |some (.row _ sz _ e xs)=>if e=ep∧Q60 ty T sz=true then (match lo.map (ev s),hi.map (ev s) with
    |none,some (.val (.int _ h))=>some (some (p.cutok 0 h (p.len xs)),.rowk id ep h)
    |_,_=>none) else none
   |_=>none
  |_=>none
 |.extract t i=>match ev s t with
  |.tup vs=>(vs[i]?).map fun x=>(none,x)
  |_=>none
 |.call { callee:=.builtin .len,args,argTypes }=>match args.toList,argTypes.toList with
  | [x],T::_=>match ev s x with
   |.val (.string b)=>if (Q4 T ty).kd=6 then some (none,.val (.int .i64 (p.szS b))) else none
   |.val (.slice none 0 0)=>if (Q4 T ty).sl=true then some (none,.val (.int .i64 0)) else none
   |v=>match Q6W p s v with
    |some (_,xs)=>if (Q4 T ty).sl=true then some (none,.val (.int .i64 (p.len xs))) else none
    |none=>none
  |_,_=>none
 |.call { callee:=.builtin .min,args,.. }=>match args.toList.map (ev s) with
  | [.val (.int k a),.val (.int _ b)]=>some (none,.val (.int k (p.minI a b)))
  |_=>none
 |.call { callee:=.builtin .max,args,.. }=>match args.toList.map (ev s) with
  | [.val (.int k a),.val (.int _ b)]=>some (none,.val (.int k (p.maxI a b)))
  |_=>none
 |_=>none
def Q49 (f:List Ob→AV→Option (AV×List Ob)):List Ob→List AV→Option (List AV×List Ob)
 |ob,[]=>some ([],ob)
 |ob,x::xs=>match f ob x with
  |some (y,ob1)=>match Q49 f ob1 xs with
   |some (ys,ob2)=>some (y::ys,ob2)
   |none=>none
  |none=>none
def frz (keep:Bool):Nat→List Ob→AV→Option (AV×List Ob)
 |0,_,_=>none
 |n+1,ob,x=>match x with
  |.val v=>some (.val v,ob)
  |.kb t=>some (.val (.bool t),ob)
  |.slc sz xs=>some (.slc sz xs,ob)
  |.ref cs=>some (.ref cs,ob)
  |.opt x=>some (.opt x,ob)
  |.agg cs=>(Q49 (frz keep n) ob cs).map fun (ys,ob)=>(.agg ys,ob)
  |.row id ep=>match ob[id]? with
   |some (.row et sz _ e xs)=>if e=ep then some (.slc sz xs,ob.set id (.row et sz true e xs)) else none
   |_=>none
  |.rowk id ep k=>match ob[id]? with
   |some (.row et sz _ e xs)=>if e=ep then some (.slc sz (p.cut xs 0 k),ob.set id (.row et sz true e xs)) else none
   |_=>none
  |.box id off=>if keep then some (.box id off,ob) else (match ob[id]? with
   |some (.box cs)=>match Q49 (frz keep n) ob cs with
    |some (cs',ob')=>match ob'[id]? with
     |some (.box _)=>some (.ref (cs'.drop off),ob'.set id (.fbox cs'))
     |_=>none
    |none=>none
   |some (.fbox cs)=>some (.ref (cs.drop off),ob)
   |_=>none)
  |_=>none
def Qle:AV→List Nat
 |.box id _=>[id]
 |.row id _=>[id]
 |.rowk id _ _=>[id]
 |.agg cs=>cs.flatMap fun|.box id _=>[id]|.row id _=>[id]|.rowk id _ _=>[id]|_=>[]
 |_=>[]
def Qmv:Ob→List Nat
 |.box cs=>cs.flatMap Qle
 |_=>[]
def Qeh (ob:List Ob):Nat→List Nat→List Nat→List Nat
 |0,acc,_=>acc
 |_,acc,[]=>acc
 |n+1,acc,i::r=>if acc.contains i then Qeh ob n acc r else Qeh ob n (acc++[i]) (Qmv (ob.getD i .gone)++r)
def Q22 (i:Nat):List Nat→Option Nat
 | []=>none
 |j::r=>if i=j then some 0 else (Q22 i r).map (· + 1)
def Qgg (ρ:List (Option Nat))(i:Nat):Option Nat:=(List.range ρ.length).find? fun j=>ρ[j]? == some (some i)
def Q2P (ρ:List (Option Nat)):Bool:=(List.range ρ.length).all fun j=>match ρ[j]? with
 |some (some i)=>Qgg ρ i == some j
 |_=>true
def inC (ob:List Ob)(ρ:List Nat):AV→AV
 |.box i o=>match Q22 i ρ with
  |some j=>.box j o
  |none=>.dead
 |.row i e=>match Q22 i ρ with
  |some j=>(match ob[i]? with
   |some (.row _ _ _ e2 _)=>if e2=e then .row j 0 else .dead
   |_=>.dead)
  |none=>.dead
 |.val v=>.val v
 |.slc sz xs=>.slc sz xs
 |.ref cs=>.ref cs
 |.opt x=>.opt x
 |.kb b=>.kb b
 |_=>.dead
def inA (ob:List Ob)(ρ:List Nat):AV→AV
 |.agg cs=>.agg (cs.map (inC ob ρ))
 |x=>inC ob ρ x
def inO (ob:List Ob)(ρ:List Nat):Ob→Ob
 |.box cs=>.box (cs.map (inC ob ρ))
 |.row et sz fz _ xs=>.row et sz fz 0 xs
 |x=>x
def QlT (ob:List Ob)(i:Nat):Nat:=match ob[i]? with
 |some (.row _ _ _ e _)=>e
 |_=>0
def Q38 (ρ:List Nat)(n j:Nat):Nat:=if j<ρ.length then ρ.getD j 0 else n+(j-ρ.length)
def Q8C (ob:List Ob)(ρ:List Nat)(j:Nat):Nat:=match ρ[j]? with
 |some i=>QlT ob i
 |none=>0
def Qjx (ob:List Ob)(ρ:List Nat):AV→AV
 |.box j o=>.box (Q38 ρ ob.length j) o
 |.row j e=>.row (Q38 ρ ob.length j) (Q8C ob ρ j+e)
 |.rowk j e k=>.rowk (Q38 ρ ob.length j) (Q8C ob ρ j+e) k
 |.rptr j e i o=>.rptr (Q38 ρ ob.length j) (Q8C ob ρ j+e) i o
 |.iter j=>.iter (Q38 ρ ob.length j)
 |x=>x
def Qjb (ob:List Ob)(ρ:List Nat):AV→AV
 |.agg cs=>.agg (cs.map (Qjx ob ρ))
 |x=>Qjx ob ρ x
def QlS (ob:List Ob)(ρ:List Nat):AV→AV
 |.tup xs=>.tup (xs.map (Qjb ob ρ))
 |x=>Qjb ob ρ x
def Qev (ob:List Ob)(ρ:List Nat)(j:Nat):Ob→Ob
 |.box cs=>.box (cs.map (Qjx ob ρ))
 |.row et sz fz e xs=>.row et sz fz (Q8C ob ρ j+e) xs
 |x=>x
def Q5S (ob:List Ob)(ρ:List Nat)(ob':List Ob):List Ob :=
 (List.range (ob.length+(ob'.length-ρ.length))).map fun id=>match Q22 id ρ with
  |some j=>Qev ob ρ j (ob'.getD j .gone)
  |none=>if id<ob.length then ob.getD id .gone else Qev ob ρ (ρ.length+(id-ob.length)) (ob'.getD (ρ.length+(id-ob.length)) .gone)
def there (ob:List Ob)(ρ:List Nat):Bool:=ρ.all fun i=>match ob[i]? with
 |some .gone|none=>false
 |_=>true
def Qj1 (sz:Nat)(xs:List AV):Bool:=xs.all fun x=>x.cells.length == sz
def Qb6 (s:St)(E U:Nat)(y:AV):Option (Nat×List AV) :=
 match y with
 |.val (.string b)=>if (Q4 U ty).kd=6∧(Q4 E ty).kind=some .u8 then some (1,p.bytesS b) else none
 |.val (.slice none 0 0)=>if (Q4 U ty).sl=true then some ((Q4 E ty).size,[]) else none
 |v=>if (Q4 U ty).sl=true then Q6W p s v else none
def Q3s (K:St→Tree)(o:Oper)(s:St)(op:Op):Tree :=
 match Q2E p ty s op with
 |some (none,v)=>K (St.put s o.dst v)
 |some (some q,v)=>.need q (K (St.put s o.dst v))
 |none=>match op with
  |.convert src dst x=>match ev s x with
   |.val (.string b)=>if (Q4 src ty).kd=6∧(Q4 dst ty).sl=true∧(Q4 (Q4 dst ty).elem ty).kind=some .u8 then .need (p.szok b) (K (St.put s o.dst (.slc 1 (p.bytesS b)))) else .stuck 19
   |.row id ep=>match s.ob[id]? with
    |some (.row et sz false e xs)=>if e=ep∧src=dst∧sz=1∧(Q4 src ty).sl=true∧(Q4 (Q4 src ty).elem ty).kind=some .u8 then .need (p.more xs) (K (St.put ⟨s.tm,s.ob.set id (.row et sz true (e+1) xs)⟩ o.dst (.slc 1 xs))) else .stuck 23
    |_=>.stuck 24
   |_=>.stuck 21
  |_=>.stuck 22
def Q9Q (s:St):Operand→St
 |.tmp t=>match lk t s.tm with
  |.rowk id ep k=>match s.ob[id]? with
   |some (.row et sz false e xs)=>if e=ep then ⟨(t,.row id (e+1))::s.tm,s.ob.set id (.row et sz false (e+1) (p.cut xs 0 k))⟩ else s
   |_=>s
  |_=>s
 |_=>s
def Qlq (s:St):Operand→St
 |.tmp t=>match lk t s.tm with
  |.row id ep=>match frz p true 9 s.ob (.row id ep) with
   |some (v,ob)=>⟨(t,v)::s.tm,ob⟩
   |none=>s
  |.rowk id ep k=>match frz p true 9 s.ob (.rowk id ep k) with
   |some (v,ob)=>⟨(t,v)::s.tm,ob⟩
   |none=>s
  |_=>s
 |_=>s
def QdI (K:St→Tree)(o:Oper)(s:St)(T:Nat)(a x:Operand):Tree :=
 match ev s a with
  |.box id off=>match s.ob[id]? with
   |some (.box c)=>if (ev s x).live=true∧(Q4 T ty).ok=true∧(ev s x).cells.length=(Q4 T ty).size∧off+(ev s x).cells.length≤c.length then
     K (St.put ⟨s.tm,s.ob.set id (.box (setCells c off (ev s x).cells))⟩ o.dst .dead) else .stuck 1
   |_=>.stuck 2
  |_=>.stuck 3
def QmZ (cs:Nat→List AV→List Ob→Option (AV×List Ob))(o:Oper)(g:Nat)(args:List AV)(ob:List Ob):Option (AV×List Ob) :=
 match cs g args ob with
 |some r=>some r
 |none=>match o.dst with
  |some d=>cs (1000000+d) args ob
  |none=>none
def aop (cs:Nat→List AV→List Ob→Option (AV×List Ob))(K:St→Tree)(o:Oper)(s:St):Tree :=
 match o.op with
 |.alloc T=>if (Q4 T ty).ok then K (St.put ⟨s.tm,s.ob++[.box ((Q4 T ty).zero.map .val)]⟩ o.dst (.box s.ob.length 0)) else .stuck 50
 |.box _ x=>if (ev s x).live then K (St.put ⟨s.tm,s.ob++[.box (ev s x).cells]⟩ o.dst (.box s.ob.length 0)) else .stuck 51
 |.assign x=>Q3s p ty K o (Q9Q p s x) (.assign x)
 |.store T a x=>QdI ty K o (Q9Q p s x) T a x
 |.buildSlice T len parts =>
  let E:=(Q4 T ty).elem
  match Q49 (frz p true 9) s.ob (parts.toList.map fun x=>ev s x.2) with
  |some (xs,ob) =>
   if Qa8 E xs=true∧Q60 ty T (Q4 E ty).size=true∧Qj1 (Q4 E ty).size xs=true∧xs.all AV.pur=true∧len≤4000∧(Q4 E ty).size≤4000∧parts.toList.map (·.1)=List.range len then
    K (St.put ⟨s.tm,ob++[.row E (Q4 E ty).size false 0 xs]⟩ o.dst (.row ob.length 0)) else .stuck 4
  |none=>.stuck 5
 |.call { callee:=.builtin .append,args,argTypes }=>match args.toList,argTypes.toList with
  | [x,y],[T,U] =>
   let E:=(Q4 T ty).elem
   match Qb6 p ty s E U (ev s y) with
   |some (sz,news)=>if Qa8 E news=true∧Q60 ty T sz=true then (match ev s x with
    |.val (.slice none 0 0)=>.need (p.bnd [] news) (K (St.put ⟨s.tm,s.ob++[.row E sz false 1 (p.app [] news)]⟩ o.dst (.row s.ob.length 1)))
    |.row id ep=>match s.ob[id]? with
     |some (.row et sz' fz e xs)=>if e=ep∧et=E∧sz'=sz then
       .need (p.bnd xs news) (K (St.put ⟨s.tm,s.ob.set id (.row et sz' fz (e+1) (p.app xs news))⟩ o.dst (.row id (e+1)))) else .stuck 6
     |_=>.stuck 7
    |.rowk id ep k=>match s.ob[id]? with
     |some (.row et sz' false e xs)=>if e=ep∧et=E∧sz'=sz then
       .need (p.bnd (p.cut xs 0 k) news) (K (St.put ⟨s.tm,s.ob.set id (.row et sz' false (e+1) (p.app (p.cut xs 0 k) news))⟩ o.dst (.row id (e+1)))) else .stuck 8
     |_=>.stuck 9
    |_=>.stuck 10) else .stuck 11
   |none=>.stuck 12
  |_,_=>.stuck 13
 |.call { callee:=.value f,args,argTypes }=>match ev s f with
  |.val (.func (.func g) ca cb)=>if ca.size=0∧cb.size=0 then (match Q49 (frz p true 9) s.ob (args.toList.map (ev s)) with
   |some (vs,ob) =>
    let ρ:=Qeh ob 60 [] (vs.flatMap Qle)
    if Q2P (ρ.map some)=true∧there ob ρ=true∧(argTypes.toList.any (QlQ ty)=true∨ρ.isEmpty=true) then (match QmZ cs o g (vs.map (inA ob ρ)) (ρ.map fun i=>inO ob ρ (ob.getD i .gone)) with
    |some (res,ob')=>if ρ.length≤ob'.length then .call g (vs.map (inA ob ρ)) (ρ.map fun i=>inO ob ρ (ob.getD i .gone)) res ob' (K (St.put ⟨s.tm,Q5S ob ρ ob'⟩ o.dst (QlS ob ρ res))) else .stuck 61
    |none=>.stuck (1000+g)) else .stuck 60
   |none=>.stuck 14) else .stuck 62
  |_=>.stuck 15
 |.range T x=>match ev s x with
  |.val (.string b)=>if (Q4 T ty).kd=6 then K (St.put ⟨s.tm,s.ob++[.iter b 0]⟩ o.dst (.iter s.ob.length)) else .stuck 52
  |_=>.stuck 16
 |.next it true=>match ev s it with
  |.iter id=>match s.ob[id]? with
   |some (.iter b pos)=>.br (p.itmore b pos)
     (K (St.put ⟨s.tm,s.ob.set id (.iter b (p.itp b pos))⟩ o.dst (.tup [.kb true,.val (.int .i64 (p.toI pos)),.val (.int .i32 (p.itr b pos))])))
     (K (St.put s o.dst (.tup [.kb false])))
   |_=>.stuck 17
  |_=>.stuck 18
 |.binOp op T x y z=>match Qm0 s x y with
  |some xs=>if (Q4 T ty).kd=2 then (match op with
   |.eql=>.either (p.emp xs) (K (St.put s o.dst (.val (.bool true)))) (K (St.put s o.dst (.val (.bool false))))
   |.neq=>.either (p.emp xs) (K (St.put s o.dst (.val (.bool false)))) (K (St.put s o.dst (.val (.bool true))))
   |_=>.stuck 80) else .stuck 81
  |none=>match Qik p s op x y with
   |some (sh,b)=>.ask T sh (K (St.put s o.dst (.val (.bool b))))
   |none=>Q3s p ty K o s (.binOp op T x y z)
 |.slice T x (some lo) hi m=>Q3s p ty K o (Qlq p s x) (.slice T x (some lo) hi m)
 |op=>Q3s p ty K o s op
inductive OT where
 |nil
 |cons (i:Nat) (r:OT)
 |fork (a b:OT)
def OT.of:List Nat→OT
 | []=>.nil
 |i::r=>.cons i (OT.of r)
def OT.or (t:OT)(n:Nat):OT:=match t with
 |.nil=>OT.of (List.range n)
 |t=>t
def Q5m (cs:Nat→List AV→List Ob→Option (AV×List Ob))(ops:List Oper)(K:St→Tree):OT→St→Tree
 |.nil,s=>K s
 |.fork a b,s=>.both (Q5m cs ops K a s) (Q5m cs ops K b s)
 |.cons i rest,s=>match ops[i]? with
  |none=>.stuck 30
  |some o=>match o.guard with
   |none=>aop p ty cs (Q5m cs ops K rest) o s
   |some (j,want)=>match (ops[j]?).bind (·.dst) with
    |none=>.stuck 31
    |some d=>match lk d s.tm with
     |.kb b=>match b,want with
      |true,true=>aop p ty cs (Q5m cs ops K rest) o s
      |false,false=>aop p ty cs (Q5m cs ops K rest) o s
      |_,_=>Q5m cs ops K rest (s.put o.dst (.tup []))
     |.val (.bool b)=>match want with
      |true=>.br b (aop p ty cs (Q5m cs ops K rest) o (s.put (some d) (.kb true))) (Q5m cs ops K rest ((s.put (some d) (.kb false)).put o.dst (.tup [])))
      |false=>.br b (Q5m cs ops K rest ((s.put (some d) (.kb true)).put o.dst (.tup []))) (aop p ty cs (Q5m cs ops K rest) o (s.put (some d) (.kb false)))
     |.tup []=>Q5m cs ops K rest (s.put o.dst (.tup []))
     |_=>.stuck 32
def Q5 (cs:Nat→List AV→List Ob→Option (AV×List Ob))(ord:Nat→OT):Code→(Ex→St→Tree)→St→Tree
 |.skip,K,s=>K .normal s
 |.region id ops draw,K,s=>Q5m p ty cs ops.toList (K .normal) (if draw then (ord id).or ops.size else OT.of (List.range ops.size)) s
 |.seq a b,K,s=>Q5 cs ord a (fun e s=>match e with|.normal=>Q5 cs ord b K s|.exit i=>K (.exit i) s|.ret=>K .ret s) s
 |.cond c a b,K,s=>match c with
  |.tmp t=>match lk t s.tm with
   |.kb true=>Q5 cs ord a K s
   |.kb false=>Q5 cs ord b K s
   |.val (.bool x)=>.br x (Q5 cs ord a K (s.put (some t) (.kb true))) (Q5 cs ord b K (s.put (some t) (.kb false)))
   |_=>.stuck 40
  |.const (.bool true)=>Q5 cs ord a K s
  |.const (.bool false)=>Q5 cs ord b K s
  |_=>.stuck 41
 |.block id c,K,s=>Q5 cs ord c (fun e s=>match e with|.exit i=>if i=id then K .normal s else K (.exit i) s|.normal=>K .normal s|.ret=>K .ret s) s
 |.loop c,K,s=>.loop c s K
 |.exit i,K,s=>K (.exit i) s
 |.ret,K,s=>K .ret s
 |_,_,_=>.stuck 42
def Q9H (s:St):ResultVar→Option AV
 |.tmp t=>match lk t s.tm with|.kb b=>some (.val (.bool b))|.dead=>none|x=>some x
 |.cell t T=>match Q7L s (lk t s.tm) with
  |some cs=>if (Q4 T ty).ok=true∧(if (Q4 T ty).agg then (Q4 T ty).size else 1)≤cs.length then some (mk ty T cs) else none
  |none=>none
def Q5A:List (Option AV)→Option (List AV)
 | []=>some []
 |some x::r=>(Q5A r).map (x :: ·)
 |none::_=>none
def Q7J (keep:Bool)(rs:List ResultVar)(s:St):Option (AV×List Ob) :=
 match Q5A (rs.map (Q9H ty s)) with
 |some [x]=>frz p keep 9 s.ob x
 |some xs=>(Q49 (frz p keep 9) s.ob xs).map fun (ys,ob)=>(.tup ys,ob)
 |none=>none
def Q4N (keep:Bool)(rs:List ResultVar)(e:Ex)(s:St):Tree :=
 match e with
 |.exit _=>.stuck 70
 |_=>match Q7J p ty keep rs s with
  |some (r,ob)=>.leaf .ret ⟨[(0,r)],ob⟩
  |none=>.stuck 71
end
end Go.Proofs.YthbjpdijafccjaaGreat
namespace Go.Proofs.YthbjpdijafccjaaGreat
open Go.RowKit Go.Lib
def Q2S:AV→UInt8
 |.val (.int _ n)=>UInt8.ofNat n.toNat
 |_=>0
def intOf:AV→Int
 |.val (.int _ n)=>n
 |_=>0
def Q5e:AV→Bool
 |.val (.bool b)=>b
 |_=>false
def Q9k:AV→ByteArray
 |.val (.string b)=>b
 |_=>⟨#[]⟩
def Q2o:AV→List AV
 |.slc _ xs=>xs
 |_=>[]
def Qd1:AV→List AV
 |.ref cs=>cs
 |.opt x=>Qd1 x
 |_=>[]
def Q6Y:AV→Bool
 |.val (.pointer none)=>true
 |.opt x=>Q6Y x
 |_=>false
def QlP:AV→AV
 |.opt x=>x
 |x=>x
def Q4Z:AV→Prop
 |.val (.pointer none)=>True
 |.ref _=>True
 |.opt x=>Q4Z x
 |_=>False
def Q3p:List DP→Prop
 | []=>True
 |q::r=>q.q∧Q3p r
def Q9F:AV→Bool
 |.val (.pointer none)=>true
 |.ref _=>true
 |.opt x=>Q9F x
 |_=>false
theorem Q9p (x:AV):Q9F x=true↔Q4Z x:=by
 fun_induction Q9F x<;>simp_all [Q4Z]
def QeM:AV→Bool
 |.val (.int .u8 n)=>decide (0≤n)&&decide (n<256)
 |_=>false
theorem QfP (x:AV):QeM x=true↔∃ n:UInt8,x=.val (.int .u8 n.toNat):=by
 constructor
 ·intro h
  unfold QeM at h
  split at h
  ·rename_i n
   simp only[Bool.and_eq_true,decide_eq_true_eq] at h
   refine⟨UInt8.ofNat n.toNat,?_⟩
   have:(UInt8.ofNat n.toNat).toNat=n.toNat:=by
    rw[UInt8.toNat_ofNat']
    omega
   rw[this]
   have:((n.toNat:Nat):Int)=n:=by omega
   rw[this]
  ·cases h
 ·rintro⟨n,rfl⟩
  have:=n.toNat_lt
  simp only[QeM,Bool.and_eq_true,decide_eq_true_eq]
  omega
def Qij:AV→Bool
 |.val (.int .i32 _)=>true
 |_=>false
theorem Qgv (x:AV):Qij x=true↔∃ n:Int,x=.val (.int .i32 n):=by
 constructor
 ·intro h
  unfold Qij at h
  split at h
  ·exact⟨_,rfl⟩
  ·cases h
 ·rintro⟨n,rfl⟩;rfl
theorem Qfy {f:AV→Bool}{g:AV→Prop}(h:∀ x,f x=true↔g x)(xs:List AV):xs.all f=true↔∀ x∈xs,g x:=by
 rw[List.all_eq_true]
 exact forall_congr' fun x=>imp_congr_right fun _=>h x
def QjF (k:IntKind):AV→Bool
 |.val (.int k' _)=>decide (k'=k)
 |_=>false
theorem Qjf (k:IntKind)(x:AV):QjF k x=true↔x=.val (.int k (intOf x)):=by
 constructor
 ·intro h
  unfold QjF at h
  split at h
  ·have h:=of_decide_eq_true h
   rw[h];rfl
  ·cases h
 ·intro h;rw[h];simp[QjF]
def Qln:AV→Bool
 |.val (.bool _)=>true
 |_=>false
theorem Qhn (x:AV):Qln x=true↔x=.val (.bool (Q5e x)):=by
 constructor
 ·intro h
  unfold Qln at h
  split at h
  ·rfl
  ·cases h
 ·intro h;rw[h];rfl
def Qm2:AV→Bool
 |.val (.string _)=>true
 |_=>false
theorem Qi2 (x:AV):Qm2 x=true↔x=.val (.string (Q9k x)):=by
 constructor
 ·intro h
  unfold Qm2 at h
  split at h
  ·rfl
  ·cases h
 ·intro h;rw[h];rfl
def Qkj (sz:Nat):AV→Bool
 |.slc sz' _=>sz' == sz
 |.val (.slice none l c)=>l == 0&&c == 0
 |_=>false
theorem Qhs (sz:Nat)(x:AV):Qkj sz x=true↔x=.slc sz (Q2o x)∨x=.val (.slice none 0 0):=by
 constructor
 ·intro h
  unfold Qkj at h
  split at h
  ·have h:=eq_of_beq h
   rw[h];exact .inl rfl
  ·simp only[Bool.and_eq_true,beq_iff_eq] at h
   rw[h.1,h.2];exact .inr rfl
  ·cases h
 ·rintro (h|rfl)
  ·rw[h];simp[Qkj]
  ·rfl
theorem Qcw:∀ l:List DP,l.all DP.b=true↔Q3p l
 | []=>by simp[Q3p]
 |x::r=>by
  rw[List.all_cons,Bool.and_eq_true,x.h,Qcw r];rfl
def Q5Q (op:BinOp)(k:IntKind)(x y:Int):Int:=match op with
 |.and=>k.wrap (BitVec.ofInt k.bits x &&& BitVec.ofInt k.bits y).toNat
 |.or=>k.wrap (BitVec.ofInt k.bits x ||| BitVec.ofInt k.bits y).toNat
 |.xor=>k.wrap (BitVec.ofInt k.bits x ^^^ BitVec.ofInt k.bits y).toNat
 |_=>k.wrap (BitVec.ofInt k.bits x &&& ~~~ BitVec.ofInt k.bits y).toNat
def Qgu (k:IntKind)(x n:Int):Int:=k.wrap (x * 2 ^ min n.toNat k.bits)
def QmU (x n:Int):Int:=x.fdiv (2 ^ n.toNat)
def std:Pr where
 eqI a b:=a == b
 ltI a b:=decide (a<b)
 leI a b:=decide (a≤b)
 add a b:=a+b
 sub a b:=a-b
 mul a b:=a * b
 quo a b:=a.tdiv b
 rem a b:=a.tmod b
 inR k n:=⟨k.min≤n∧n≤k.max,decide (k.min≤n)&&decide (n≤k.max),by simp⟩
 nz n:=⟨n≠0,decide (n≠0),by simp⟩
 wrap k n:=k.wrap n
 minI a b:=if b<a then b else a
 maxI a b:=if a<b then b else a
 notB b:=!b
 eqB a b:=a == b
 andB a b:=a&&b
 bits:=Q5Q
 shl:=Qgu
 shr:=QmU
 nn n:=⟨0≤n,decide (0≤n),by simp⟩
 emp xs:=⟨xs=[],xs.isEmpty,by simp⟩
 eqS a b:=a.toList == b.toList
 catS a b:=a++b
 catok a b:=⟨((a.size+b.size:Nat):Int)≤IntKind.i64.max,decide (((a.size+b.size:Nat):Int)≤IntKind.i64.max),by simp⟩
 szS b:=b.size
 idxS b k:=(b.data.getD k.toNat 0).toNat
 cutS b l h:=b.extract l.toNat h.toNat
 bytesS b:=b.data.toList.map fun x=>.val (.int .u8 x.toNat)
 strB xs:=⟨(xs.map Q2S).toArray⟩
 isB xs:=⟨∀ x∈xs,∃ n:UInt8,x=.val (.int .u8 n.toNat),xs.all QeM,Qfy QfP xs⟩
 encS n:=Utf8.encode n
 strR xs:=runesBytes (xs.map intOf)
 isR xs:=⟨∀ x∈xs,∃ n:Int,x=.val (.int .i32 n),xs.all Qij,Qfy Qgv xs⟩
 len xs:=xs.length
 at_ xs k:=xs.getD k.toNat .dead
 inb k n:=⟨0≤k∧k<n,decide (0≤k)&&decide (k<n),by simp⟩
 cut xs l h:=(xs.drop l.toNat).take (h-l).toNat
 cutok l h n:=⟨0≤l∧l≤h∧h≤n,decide (0≤l)&&(decide (l≤h)&&decide (h≤n)),by simp⟩
 app xs ys:=xs++ys
 bnd xs ys:=⟨xs.length+ys.length≤1000000000,decide (xs.length+ys.length≤1000000000),by simp⟩
 more xs:=⟨xs≠[],!xs.isEmpty,by simp⟩
 itmore s pos:=decide (pos<s.size)
 itr s pos:=((Utf8.decode s pos).1:Int)
 itp s pos:=pos+(Utf8.decode s pos).2
 toI n:=(n:Int)
 szok b:=⟨b.size≤1000000000,decide (b.size≤1000000000),by simp⟩
 nth cs j:=cs.getD j .dead
 cel x:=x.cells
 drp cs n:=cs.drop n
 int x:=intOf x
 boo x:=Q5e x
 str x:=Q9k x
 lst x:=Q2o x
 prf x:=Qd1 x
 isN x:=Q6Y x
 uno x:=QlP x
 hasI k x:=⟨x=.val (.int k (intOf x)),QjF k x,Qjf k x⟩
 hasB x:=⟨x=.val (.bool (Q5e x)),Qln x,Qhn x⟩
 hasS x:=⟨x=.val (.string (Q9k x)),Qm2 x,Qi2 x⟩
 hasL sz x:=⟨x=.slc sz (Q2o x)∨x=.val (.slice none 0 0),Qkj sz x,Qhs sz x⟩
 hasP x:=⟨Q4Z x,Q9F x,Q9p x⟩
 hasR x:=⟨Q4Z x∧Q6Y x=false,Q9F x&&!Q6Y x,by rw[Bool.and_eq_true,Q9p];simp⟩
 all l:=⟨Q3p l,l.all DP.b,Qcw l⟩
abbrev QL (xs:List AV):List AV:=xs.flatMap AV.cells
inductive PRel (w:World) (A:Nat→Nat→Prop):Value→AV→Prop
 |val (v:Value) (h:v.oneCell'=true):PRel w A v (.val v)
 |nil (sz:Nat):PRel w A (.slice none 0 0) (.slc sz [])
 |slc (b o c sz:Nat) (xs:List AV) (f:Nat→Value) (hc:xs.length≤c) (hm:c≤maxLen) (hw:∀ x∈xs,x.cells.length=sz)
   (hcell:∀ j u,(QL xs)[j]?=some u→A b (o+j)∧w.cell? ⟨b,o+j,none⟩=some (f j))
   (hrel:∀ j u,(QL xs)[j]?=some u→PRel w A (f j) u):PRel w A (.slice (some ⟨b,o,none⟩) xs.length c) (.slc sz xs)
 |ref (b o:Nat) (cs:List AV) (f:Nat→Value) (hcell:∀ j u,cs[j]?=some u→A b (o+j)∧w.cell? ⟨b,o+j,none⟩=some (f j))
   (hrel:∀ j u,cs[j]?=some u→PRel w A (f j) u):PRel w A (.pointer (some ⟨b,o,none⟩)) (.ref cs)
 |opt (v:Value) (x:AV) (h:PRel w A v x) (hp:Q4Z x):PRel w A v (.opt x)
theorem PRel.keep {w w':World}{A A':Nat→Nat→Prop}(hA:∀ b o,A b o→A' b o∧w'.cell? ⟨b,o,none⟩=w.cell? ⟨b,o,none⟩){v:Value}{x:AV}(h:PRel w A v x):PRel w' A' v x:=by
 induction h with
 |val v h=>exact .val v h
 |nil sz=>exact .nil sz
 |slc b o c sz xs f hc hm hw hcell hrel ih =>
  exact .slc b o c sz xs f hc hm hw (fun j u h=>⟨(hA _ _ (hcell j u h).1).1,by rw[(hA _ _ (hcell j u h).1).2];exact (hcell j u h).2⟩) ih
 |ref b o cs f hcell hrel ih =>
  exact .ref b o cs f (fun j u h=>⟨(hA _ _ (hcell j u h).1).1,by rw[(hA _ _ (hcell j u h).1).2];exact (hcell j u h).2⟩) ih
 |opt v x h hp ih=>exact .opt v x ih hp
theorem PRel.one {w:World}{A:Nat→Nat→Prop}{v:Value}{x:AV}(h:PRel w A v x):v.oneCell'=true:=by
 induction h with
 |opt v x h hp ih=>exact ih
 |_=>first|assumption|rfl
structure Gh where
 A:Nat→Nat→Prop
 G:Nat→Option Nat
 loc:Nat→Nat
 sub:Nat→Bool
def Alike (w:World)(A:Nat→Nat→Prop)(ys:List Value)(us:List AV):Prop:=ys.length=us.length∧∀ (j:Nat) y u,ys[j]?=some y→us[j]?=some u→PRel w A y u
theorem Alike.keep {w w':World}{A A':Nat→Nat→Prop}(hA:∀ b o,A b o→A' b o∧w'.cell? ⟨b,o,none⟩=w.cell? ⟨b,o,none⟩){ys us}(h:Alike w A ys us):Alike w' A' ys us :=
 ⟨h.1,fun j y u h1 h2=>(h.2 j y u h1 h2).keep hA⟩
theorem Alike.one {w:World}{A:Nat→Nat→Prop}{ys us}(h:Alike w A ys us):∀ y∈ys,y.oneCell'=true:=fun y hy=>by
 obtain⟨j,hj,rfl⟩:=List.mem_iff_getElem.1 hy
 have h2:j<us.length:=h.1 ▸ hj
 exact (h.2 j _ _ (List.getElem?_eq_getElem hj) (List.getElem?_eq_getElem h2)).one
theorem Alike.append {w:World}{A:Nat→Nat→Prop}{ys us ys' us'}(h:Alike w A ys us)(h':Alike w A ys' us'):Alike w A (ys++ys') (us++us'):=by
 refine⟨by simp[h.1,h'.1],fun j y u h1 h2=>?_⟩
 by_cases hj:j<ys.length
 ·rw[List.getElem?_append_left hj] at h1
  rw[List.getElem?_append_left (h.1 ▸ hj)] at h2
  exact h.2 j y u h1 h2
 ·rw[List.getElem?_append_right (by omega)] at h1
  rw[List.getElem?_append_right (by have:=h.1;omega),←h.1] at h2
  exact h'.2 _ y u h1 h2
theorem Alike.take {w:World}{A:Nat→Nat→Prop}{ys us}(h:Alike w A ys us)(n:Nat):Alike w A (ys.take n) (us.take n):=by
 refine⟨by simp[h.1],fun j y u h1 h2=>?_⟩
 rw[List.getElem?_take] at h1 h2
 split at h1<;>simp_all
 exact h.2 j y u h1 h2
theorem Alike.drop {w:World}{A:Nat→Nat→Prop}{ys us}(h:Alike w A ys us)(n:Nat):Alike w A (ys.drop n) (us.drop n):=by
 refine⟨by simp[h.1],fun j y u h1 h2=>?_⟩
 rw[List.getElem?_drop] at h1 h2
 exact h.2 _ y u h1 h2
theorem Alike.nil {w:World}{A:Nat→Nat→Prop}:Alike w A [] []:=⟨rfl,fun j y u h=>by simp at h⟩
def KidV (w:World)(g:Gh)(id:Nat)(y:Value):Prop :=
 ∃ k zs,w.ownsRow 0 Qgi 1 y k zs∧∀ b,y.ownBlock=some b→g.G b=some id∧g.sub b=true∧∀ o,k≤o→¬ g.A b o
def SubOk (w:World)(g:Gh)(id et sz:Nat)(v:Value)(ys:List Value):Prop :=
 (∀ b,v.ownBlock=some b→g.sub b=false) ∧
 (et=Q5C→∀ (j:Nat) y,ys[j]?=some y→j % sz=1→KidV w g id y∧∀ (i:Nat) z b,ys[i]?=some z→i % sz=1→z.ownBlock=some b→y.ownBlock=some b→i=j)
def RowV (w:World)(g:Gh)(id et sz:Nat)(v:Value)(xs:List AV):Prop :=
 ∃ ys,w.ownsRow 0 et sz v xs.length ys∧(∀ b,v.ownBlock=some b→g.G b=some id)∧Alike w g.A ys (QL xs)∧(∀ x∈xs,x.cells.length=sz)∧SubOk w g id et sz v ys
def Q6X:Option Ob→Prop
 |some (.box _)|some (.fbox _)=>True
 |_=>False
def Qaq:Option Ob→Prop
 |some (.iter _ _)=>True
 |_=>False
def ARel0 (w:World)(g:Gh)(ob:List Ob)(v:Value):AV→Prop
 |.box id off=>v=.pointer (some ⟨g.loc id,off,none⟩)∧Q6X ob[id]?
 |.row id ep=>v.oneCell'=true∧∃ et sz fz e xs,ob[id]?=some (.row et sz fz e xs)∧ep≤e∧(e=ep→RowV w g id et sz v xs)
 |.rowk id ep k=>v.oneCell'=true∧∃ et sz fz e xs,ob[id]?=some (.row et sz fz e xs)∧ep≤e∧(e=ep→0≤k∧k≤xs.length∧RowV w g id et sz v (xs.take k.toNat))
 |.rptr id ep i off=>v.oneCell'=true∧∃ et sz fz e xs,ob[id]?=some (.row et sz fz e xs)∧ep≤e ∧
   (e=ep→∃ b c,v=.pointer (some ⟨b,i.toNat * sz+off,none⟩)∧0≤i∧i<xs.length∧RowV w g id et sz (.slice (some ⟨b,0,none⟩) xs.length c) xs)
 |.kb t=>v=.bool t
 |.iter id=>v=.pointer (some ⟨g.loc id,0,none⟩)∧Qaq ob[id]?
 |.dead=>True
 |.agg _=>False
 |.tup _=>False
 |x=>PRel w g.A v x
def ARelC (w:World)(g:Gh)(ob:List Ob)(vs:List Value)(cs:List AV):Prop :=
 vs.length=cs.length∧∀ (j:Nat) y u,vs[j]?=some y→cs[j]?=some u→ARel0 w g ob y u∧y.oneCell'=true
def ARel1 (w:World)(g:Gh)(ob:List Ob)(v:Value):AV→Prop
 |.agg cs=>∃ vs:Array Value,v=.agg vs∧ARelC w g ob vs.toList cs
 |x=>ARel0 w g ob v x
def ARel (w:World)(g:Gh)(ob:List Ob)(v:Value):AV→Prop
 |.tup xs=>∃ vs:Array Value,v=.tuple vs∧vs.size=xs.length∧∀ (j:Nat) y u,vs[j]?=some y→xs[j]?=some u→ARel1 w g ob y u
 |x=>ARel1 w g ob v x
structure Mem (w:World) (g:Gh) (ob:List Ob):Prop where
 box:∀ (id:Nat) cs,ob[id]?=some (.box cs)→g.G (g.loc id)=some id∧∃ cur T,w.heap[g.loc id]?=some (.cells cur T (0,0))∧ARelC w g ob cur.toList cs
 fbox:∀ (id:Nat) cs,ob[id]?=some (.fbox cs)→∀ (j:Nat) u,cs[j]?=some u→g.A (g.loc id) j∧∃ y,w.cell? ⟨g.loc id,j,none⟩=some y∧PRel w g.A y u
 iter:∀ (id:Nat) s pos,ob[id]?=some (.iter s pos)→g.G (g.loc id)=some id∧w.heap[g.loc id]?=some (.stringIter s pos)
 own:∀ b id,g.G b=some id→b<w.heap.size∧id<ob.length
 imm:∀ b o,g.A b o→b<w.heap.size∧∀ id,g.G b=some id→g.sub b=false→∃ et sz e xs,ob[id]?=some (.row et sz true e xs)∧o<xs.length * sz
 roww:∀ (id:Nat) et sz fz e xs,ob[id]?=some (.row et sz fz e xs)→0<sz∧∀ x∈xs,x.cells.length=sz
 nsub:∀ b,g.sub b=true→∃ id et sz fz e xs,g.G b=some id∧ob[id]?=some (.row et sz fz e xs)
 uniq:∀ b b' id,g.G b=some id→g.G b'=some id→g.sub b=false→g.sub b'=false→b=b'
def Qn6 (ob ob':List Ob)(id:Nat):Prop:=∃ et sz fz fz' e xs xs',ob[id]?=some (.row et sz fz e xs)∧ob'[id]?=some (.row et sz fz' e xs')
structure Ext (w:World) (g:Gh) (ob:List Ob) (w':World) (g':Gh) (ob':List Ob):Prop where
 A:∀ b o,g.A b o→g'.A b o∧w'.cell? ⟨b,o,none⟩=w.cell? ⟨b,o,none⟩
 loc:∀ id,id<ob.length→g'.loc id=g.loc id
 isb:∀ id:Nat,Q6X ob[id]?→Q6X ob'[id]?
 isi:∀ id:Nat,Qaq ob[id]?→Qaq ob'[id]?
 row:∀ (id:Nat) et sz fz e xs,ob[id]?=some (.row et sz fz e xs)→∃ fz' e' xs',ob'[id]?=some (.row et sz fz' e' xs')∧e≤e' ∧
  (e'=e→xs'=xs∧∀ b,g.G b=some id→g'.G b=some id∧w'.heap[b]?=w.heap[b]?)
 sub:∀ b id,g.G b=some id→Qn6 ob ob' id→g'.sub b=g.sub b∧(g.sub b=true→∀ o,g'.A b o→g.A b o)
theorem Qb {α:Type}{l:List α}{i:Nat}{x:α}(h:l[i]?=some x):i<l.length:=(List.getElem?_eq_some_iff.1 h).1
theorem Q46 {ob:List Ob}{id:Nat}(h:Q6X ob[id]?):id<ob.length:=by
 by_cases hl:id<ob.length
 ·exact hl
 ·rw[List.getElem?_eq_none (by omega)] at h;exact h.elim
theorem Q4U {ob:List Ob}{id:Nat}(h:Qaq ob[id]?):id<ob.length:=by
 by_cases hl:id<ob.length
 ·exact hl
 ·rw[List.getElem?_eq_none (by omega)] at h;exact h.elim
section
variable {w w' w'':World} {g g' g'':Gh} {ob ob' ob'':List Ob}
theorem Q3g {et sz n:Nat}{v:Value}{ys:List Value}(h:w.ownsRow 0 et sz v n ys)(hb:∀ b,v.ownBlock=some b→w'.heap[b]?=w.heap[b]?):w'.ownsRow 0 et sz v n ys:=by
 obtain⟨h1,h2⟩:=h
 refine⟨h1,?_⟩
 rcases h2 with h2|⟨b,cap,cur,rfl,h3,h4,h5⟩
 ·exact .inl h2
 ·refine .inr ⟨b,cap,cur,rfl,h3,?_,h5⟩
  rw[hb b rfl];exact h4
theorem SubOk.ext {id id' et sz:Nat}{v:Value}{ys:List Value}(h:SubOk w g id et sz v ys)(hv:∀ b,v.ownBlock=some b→g.G b=some id)
  (hb:∀ b,g.G b=some id→g'.G b=some id'∧g'.sub b=g.sub b∧(g.sub b=true→w'.heap[b]?=w.heap[b]?∧∀ o,g'.A b o→g.A b o)):SubOk w' g' id' et sz v ys:=by
 refine⟨fun b h1=>by rw[(hb b (hv b h1)).2.1];exact h.1 b h1,fun he j y hy hj=>?_⟩
 obtain⟨⟨k,zs,h1,h2⟩,h3⟩:=h.2 he j y hy hj
 refine⟨⟨k,zs,Q3g h1 fun b h4=>((hb b (h2 b h4).1).2.2 (h2 b h4).2.1).1,fun b h4=>?_⟩,h3⟩
 obtain⟨h5,h6,h7⟩:=h2 b h4
 obtain⟨h8,h9,h10⟩:=hb b h5
 exact⟨h8,h9.trans h6,fun o ho hA=>h7 o ho ((h10 h6).2 o hA)⟩
theorem RowV.ext {id et sz:Nat}{v:Value}{xs:List AV}(h:RowV w g id et sz v xs)(hA:∀ b o,g.A b o→g'.A b o∧w'.cell? ⟨b,o,none⟩=w.cell? ⟨b,o,none⟩)
  (hb:∀ b,g.G b=some id→g'.G b=some id∧w'.heap[b]?=w.heap[b]?∧g'.sub b=g.sub b∧(g.sub b=true→∀ o,g'.A b o→g.A b o)):RowV w' g' id et sz v xs:=by
 obtain⟨ys,ho,hG,hal,hw,hs⟩:=h
 exact⟨ys,Q3g ho fun b h=>(hb b (hG b h)).2.1,fun b h=>(hb b (hG b h)).1,hal.keep hA,hw,hs.ext hG fun b h=>⟨(hb b h).1,(hb b h).2.2.1,fun h1=>⟨(hb b h).2.1,(hb b h).2.2.2 h1⟩⟩⟩
theorem Ext.rowv (E:Ext w g ob w' g' ob'){id et sz e:Nat}{fz:Bool}{xs:List AV}(h1:ob[id]?=some (.row et sz fz e xs)):∃ fz' e' xs',ob'[id]?=some (.row et sz fz' e' xs')∧e≤e' ∧
  (e'=e→xs'=xs∧∀ b,g.G b=some id→g'.G b=some id∧w'.heap[b]?=w.heap[b]?∧g'.sub b=g.sub b∧(g.sub b=true→∀ o,g'.A b o→g.A b o)):=by
 obtain⟨fz',e',xs',h2,h3,h4⟩:=E.row _ _ _ _ _ _ h1
 refine⟨fz',e',xs',h2,h3,fun he=>⟨(h4 he).1,fun b hb=>?_⟩⟩
 subst he
 have h5:=E.sub b id hb ⟨_,_,_,_,_,_,_,h1,h2⟩
 exact⟨((h4 rfl).2 b hb).1,((h4 rfl).2 b hb).2,h5.1,h5.2⟩
theorem Mem.nosub (M:Mem w g ob){b id:Nat}(hG:g.G b=some id)(h:∀ et sz fz e xs,ob[id]?≠some (.row et sz fz e xs)):g.sub b=false:=by
 cases hs:g.sub b with
 |false=>rfl
 |true =>
  obtain⟨id',et,sz,fz,e,xs,h1,h2⟩:=M.nsub b hs
  rw[hG] at h1
  obtain rfl:id=id':=by simpa using h1
  exact absurd h2 (h _ _ _ _ _)
theorem ARel0.ext (E:Ext w g ob w' g' ob'){v:Value}{x:AV}(h:ARel0 w g ob v x):ARel0 w' g' ob' v x:=by
 cases x with
 |box id off=>exact⟨by rw[E.loc id (Q46 h.2)];exact h.1,E.isb _ h.2⟩
 |row id ep =>
  obtain⟨h0,et,sz,fz,e,xs,h1,h2,h3⟩:=h
  obtain⟨fz',e',xs',h4,h5,h6⟩:=E.rowv h1
  refine⟨h0,et,sz,fz',e',xs',h4,by omega,fun he=>?_⟩
  have hee:e'=e:=by omega
  obtain⟨rfl,h7⟩:=h6 hee
  exact (h3 (by omega)).ext E.A h7
 |rowk id ep k =>
  obtain⟨h0,et,sz,fz,e,xs,h1,h2,h3⟩:=h
  obtain⟨fz',e',xs',h4,h5,h6⟩:=E.rowv h1
  refine⟨h0,et,sz,fz',e',xs',h4,by omega,fun he=>?_⟩
  have hee:e'=e:=by omega
  obtain⟨rfl,h7⟩:=h6 hee
  obtain⟨h8,h9,h10⟩:=h3 (by omega)
  exact⟨h8,h9,h10.ext E.A h7⟩
 |rptr id ep i off =>
  obtain⟨h0,et,sz,fz,e,xs,h1,h2,h3⟩:=h
  obtain⟨fz',e',xs',h4,h5,h6⟩:=E.rowv h1
  refine⟨h0,et,sz,fz',e',xs',h4,by omega,fun he=>?_⟩
  have hee:e'=e:=by omega
  obtain⟨rfl,h7⟩:=h6 hee
  obtain⟨b,c,h8,h9,h10,h11⟩:=h3 (by omega)
  exact⟨b,c,h8,h9,h10,h11.ext E.A h7⟩
 |kb t=>exact h
 |iter id=>exact⟨by rw[E.loc id (Q4U h.2)];exact h.1,E.isi _ h.2⟩
 |dead=>trivial
 |agg _=>exact h
 |tup _=>exact h
 |val _=>exact PRel.keep E.A h
 |slc _ _=>exact PRel.keep E.A h
 |ref _=>exact PRel.keep E.A h
 |opt _=>exact PRel.keep E.A h
theorem ARelC.ext (E:Ext w g ob w' g' ob'){vs:List Value}{cs:List AV}(h:ARelC w g ob vs cs):ARelC w' g' ob' vs cs :=
 ⟨h.1,fun j y u h1 h2=>⟨(h.2 j y u h1 h2).1.ext E,(h.2 j y u h1 h2).2⟩⟩
theorem ARel1.ext (E:Ext w g ob w' g' ob'){v:Value}{x:AV}(h:ARel1 w g ob v x):ARel1 w' g' ob' v x:=by
 cases x with
 |agg cs=>obtain⟨vs,rfl,h⟩:=h;exact⟨vs,rfl,h.ext E⟩
 |val a=>exact ARel0.ext (x:=.val a) E h
 |slc a b=>exact ARel0.ext (x:=.slc a b) E h
 |ref a=>exact ARel0.ext (x:=.ref a) E h
 |opt a=>exact ARel0.ext (x:=.opt a) E h
 |tup a=>exact (show False from h).elim
 |box a b=>exact ARel0.ext (x:=.box a b) E h
 |row a b=>exact ARel0.ext (x:=.row a b) E h
 |rowk a b c=>exact ARel0.ext (x:=.rowk a b c) E h
 |rptr a b c d=>exact ARel0.ext (x:=.rptr a b c d) E h
 |kb a=>exact ARel0.ext (x:=.kb a) E h
 |iter a=>exact ARel0.ext (x:=.iter a) E h
 |dead=>trivial
theorem ARel.ext (E:Ext w g ob w' g' ob'){v:Value}{x:AV}(h:ARel w g ob v x):ARel w' g' ob' v x:=by
 cases x with
 |tup a=>obtain⟨vs,rfl,h1,h2⟩:=h;exact⟨vs,rfl,h1,fun j y u h3 h4=>(h2 j y u h3 h4).ext E⟩
 |val a=>exact ARel1.ext (x:=.val a) E h
 |slc a b=>exact ARel1.ext (x:=.slc a b) E h
 |ref a=>exact ARel1.ext (x:=.ref a) E h
 |opt a=>exact ARel1.ext (x:=.opt a) E h
 |agg a=>exact ARel1.ext (x:=.agg a) E h
 |box a b=>exact ARel1.ext (x:=.box a b) E h
 |row a b=>exact ARel1.ext (x:=.row a b) E h
 |rowk a b c=>exact ARel1.ext (x:=.rowk a b c) E h
 |rptr a b c d=>exact ARel1.ext (x:=.rptr a b c d) E h
 |kb a=>exact ARel1.ext (x:=.kb a) E h
 |iter a=>exact ARel1.ext (x:=.iter a) E h
 |dead=>trivial
theorem Ext.refl:Ext w g ob w g ob:=⟨fun _ _ h=>⟨h,rfl⟩,fun _ _=>rfl,fun _ h=>h,fun _ h=>h,fun _ _ _ fz e xs h=>⟨fz,e,xs,h,Nat.le_refl _,fun _=>⟨rfl,fun _ h=>⟨h,rfl⟩⟩⟩,fun _ _ _ _=>⟨rfl,fun _ _ h=>h⟩⟩
theorem Ext.below (M:Mem w g ob)(hb:Below w.heap.size w w'):Ext w g ob w' g ob :=
 ⟨fun b o h=>⟨h,World.cell?_of_block (w:=w) (hb.block b (M.imm b o h).1)⟩,fun _ _=>rfl,fun _ h=>h,fun _ h=>h,
  fun _ _ _ fz e xs h=>⟨fz,e,xs,h,Nat.le_refl _,fun _=>⟨rfl,fun b hG=>⟨hG,hb.block b (M.own b _ hG).1⟩⟩⟩,fun _ _ _ _=>⟨rfl,fun _ _ h=>h⟩⟩
theorem Mem.below (M:Mem w g ob)(hb:Below w.heap.size w w'):Mem w' g ob:=by
 have E:=Ext.below M hb
 refine⟨fun id cs h=>?_,fun id cs h j u hj=>?_,fun id s pos h=>?_,fun b id h=>⟨Nat.lt_of_lt_of_le (M.own b id h).1 hb.size,(M.own b id h).2⟩,
  fun b o h=>⟨Nat.lt_of_lt_of_le (M.imm b o h).1 hb.size,(M.imm b o h).2⟩,M.roww,M.nsub,M.uniq⟩
 ·obtain⟨h1,cur,T,h2,h3⟩:=M.box id cs h
  exact⟨h1,cur,T,by rw[hb.block _ (M.own _ _ h1).1];exact h2,h3.ext E⟩
 ·obtain⟨h1,y,h2,h3⟩:=M.fbox id cs h j u hj
  exact⟨h1,y,by rw[(E.A _ _ h1).2];exact h2,h3.keep E.A⟩
 ·obtain⟨h1,h2⟩:=M.iter id s pos h
  exact⟨h1,by rw[hb.block _ (M.own _ _ h1).1];exact h2⟩
end
end Go.Proofs.YthbjpdijafccjaaGreat
namespace Go.Proofs.YthbjpdijafccjaaGreat
open Go.RowKit Go.Lib
def Q2u:TypeDesc→Bool×Nat×List (Nat×Nat)×Option IntKind×Bool×Nat
 |.struct fs=>(true,0,fs.toList.map (fun f=>(f.offset,f.type)),none,false,1)
 |.slice e=>(false,e,[],none,true,2)
 |.int k=>(false,0,[],some k,false,3)
 |.pointer _=>(false,0,[],none,false,4)
 |.bool=>(false,0,[],none,false,5)
 |.string=>(false,0,[],none,false,6)
 |.func _ _ _=>(false,0,[],none,false,7)
 |.array n e=>(true,e,[],none,false,100+n)
 |_=>(false,0,[],none,false,0)
structure TiOk (P:Program) (t:Nat) (x:TI):Prop where
 info:(P.info? t).map (fun i=>(i.size,i.bytes,i.zero.map (·.cells.toList)))=some (x.size,x.bytes,some x.zero)
 und:(P.underlying t).map Q2u=some (x.agg,x.elem,x.flds,x.kind,x.sl,x.kd)
 zl:x.zero.length=x.size
 one:x.agg=false→x.size=1
 by_:x.bytes≤140000
 fi:x.flds.all (fun f=>(P.info? f.2).isSome)=true
 zone:x.zero.all (·.oneCell')=true
 okk:x.ok=true
def QdG (P:Program)(l:List (Nat×TI)):Prop:=∀ t x,(t,x)∈l→TiOk P t x
def TyOk (P:Program)(ty:Tys):Prop:=QdG P (ty ())
section
variable {P:Program} {ty:Tys}
theorem Q32 (hT:TyOk P ty){t:Nat}(h:(Q4 t ty).ok=true):TiOk P t (Q4 t ty):=by
 suffices H:∀ l:List (Nat×TI),(∀ t x,(t,x)∈l→TiOk P t x)→(Q67 t l).ok=true→TiOk P t (Q67 t l) from H (ty ()) hT h
 intro l
 induction l with
 |nil=>intro _ h;cases h
 |cons a r ih =>
  obtain⟨u,x⟩:=a
  intro h1 h2
  unfold Q67 at h2 ⊢
  by_cases e:t=u
  ·subst e
   rw[if_pos rfl]
   exact h1 _ _ (List.mem_cons_self)
  ·rw[if_neg e] at h2 ⊢
   exact ih (fun t x h=>h1 t x (List.mem_cons_of_mem _ h)) h2
theorem Qfe (hT:TyOk P ty)(t:Nat):TiOk P t (Q4 t ty)∨Q4 t ty=⟨0,false,0,[],[],none,0,false,0,false⟩:=by
 suffices H:∀ l:List (Nat×TI),(∀ t x,(t,x)∈l→TiOk P t x)→TiOk P t (Q67 t l)∨Q67 t l=⟨0,false,0,[],[],none,0,false,0,false⟩ from H (ty ()) hT
 intro l
 induction l with
 |nil=>intro _;exact .inr rfl
 |cons a r ih =>
  obtain⟨u,x⟩:=a
  intro h1
  unfold Q67
  by_cases e:t=u
  ·subst e
   rw[if_pos rfl]
   exact .inl (h1 _ _ (List.mem_cons_self))
  ·rw[if_neg e]
   exact ih (fun t x h=>h1 t x (List.mem_cons_of_mem _ h))
theorem Q5l (hT:TyOk P ty){t k:Nat}(h:(Q4 t ty).kd=k)(hk:k≠0):TiOk P t (Q4 t ty):=by
 rcases Qfe hT t with h1|h1
 ·exact h1
 ·rw[h1] at h;exact absurd h.symm hk
theorem Q9L (hT:TyOk P ty){t:Nat}(h:(Q4 t ty).sl=true):TiOk P t (Q4 t ty):=by
 rcases Qfe hT t with h1|h1
 ·exact h1
 ·rw[h1] at h;cases h
theorem Q7x (hT:TyOk P ty){t:Nat}{k:IntKind}(h:(Q4 t ty).kind=some k):TiOk P t (Q4 t ty):=by
 rcases Qfe hT t with h1|h1
 ·exact h1
 ·rw[h1] at h;cases h
theorem Qes (hT:TyOk P ty){t f:Nat}{q:Nat×Nat}(h:(Q4 t ty).flds[f]?=some q):TiOk P t (Q4 t ty):=by
 rcases Qfe hT t with h1|h1
 ·exact h1
 ·rw[h1] at h;simp at h
theorem TiOk.i {t:Nat}{x:TI}(h:TiOk P t x):∃ i z,P.info? t=some i∧i.size=x.size∧i.bytes=x.bytes∧i.zero=some z∧z.cells.toList=x.zero:=by
 have:=h.info
 cases hi:P.info? t with
 |none=>simp[hi] at this
 |some i =>
  rw[hi] at this
  simp only[Option.map_some,Option.some.injEq,Prod.mk.injEq,Option.map_eq_some_iff] at this
  obtain⟨h1,h2,z,h3,h4⟩:=this
  exact⟨i,z,rfl,h1,h2,h3,h4⟩
theorem TiOk.u {t:Nat}{x:TI}(h:TiOk P t x):∃ d,P.underlying t=some d∧Q2u d=(x.agg,x.elem,x.flds,x.kind,x.sl,x.kd):=by
 have:=h.und
 cases hi:P.underlying t with
 |none=>simp[hi] at this
 |some d=>rw[hi] at this;exact⟨d,rfl,by simpa using this⟩
theorem TiOk.size {t:Nat}{x:TI}(h:TiOk P t x)(W:World):(sizeOf t).run P W=.ok x.size W:=by
 obtain⟨i,z,h1,h2,_⟩:=h.i
 simp[sizeOf,typeInfo,h1,h2]
theorem TiOk.zeroV {t:Nat}{x:TI}(h:TiOk P t x):∃ z,z.cells.toList=x.zero∧∀ W,(zeroValue t).run P W=.ok z W:=by
 obtain⟨i,z,h1,h2,h3,h4,h5⟩:=h.i
 exact⟨z,h5,fun W=>by simp[zeroValue,typeInfo,h1,h4]⟩
theorem TiOk.isAgg {t:Nat}{x:TI}(h:TiOk P t x)(W:World):(isAgg t).run P W=.ok x.agg W:=by
 obtain⟨d,h1,h2⟩:=h.u
 unfold Go.isAgg
 rw[Sem.run_bind,run_underlying h1]
 cases d<;>simp[Q2u] at h2 ⊢<;>simp_all
theorem TiOk.slice {t:Nat}{x:TI}(h:TiOk P t x)(hs:x.sl=true):P.underlying t=some (.slice x.elem):=by
 obtain⟨d,h1,h2⟩:=h.u
 cases d<;>simp[Q2u] at h2<;>simp_all
theorem TiOk.str {t:Nat}{x:TI}(h:TiOk P t x)(hs:x.kd=6):P.underlying t=some .string:=by
 obtain⟨d,h1,h2⟩:=h.u
 cases d<;>simp[Q2u] at h2<;>first|(simp_all;done)|omega
theorem TiOk.bool {t:Nat}{x:TI}(h:TiOk P t x)(hs:x.kd=5):P.underlying t=some .bool:=by
 obtain⟨d,h1,h2⟩:=h.u
 cases d<;>simp[Q2u] at h2<;>first|(simp_all;done)|omega
theorem TiOk.slk {t:Nat}{x:TI}(h:TiOk P t x)(hs:x.kd=2):P.underlying t=some (.slice x.elem):=by
 obtain⟨d,h1,h2⟩:=h.u
 cases d<;>simp[Q2u] at h2<;>first|(simp_all;done)|omega
theorem TiOk.ptr {t:Nat}{x:TI}(h:TiOk P t x)(hs:x.kd=4):∃ e,P.underlying t=some (.pointer e):=by
 obtain⟨d,h1,h2⟩:=h.u
 cases d<;>simp[Q2u] at h2<;>first|(simp_all;done)|omega
theorem TiOk.int {t:Nat}{x:TI}{k:IntKind}(h:TiOk P t x)(hs:x.kind=some k):P.underlying t=some (.int k):=by
 obtain⟨d,h1,h2⟩:=h.u
 cases d<;>simp[Q2u] at h2<;>simp_all
theorem TiOk.strct {t:Nat}{x:TI}(h:TiOk P t x)(hs:x.kd=1):∃ fs,P.underlying t=some (.struct fs)∧x.flds=fs.toList.map (fun f=>(f.offset,f.type)):=by
 obtain⟨d,h1,h2⟩:=h.u
 cases d<;>simp[Q2u] at h2<;>first|(simp_all;done)|omega
theorem TiOk.arr {t:Nat}{x:TI}(h:TiOk P t x)(hs:100≤x.kd):P.underlying t=some (.array (x.kd-100) x.elem):=by
 obtain⟨d,h1,h2⟩:=h.u
 cases d<;>simp[Q2u] at h2<;>try (exfalso;omega)
 obtain⟨_,rfl,_,_,_,h3⟩:=h2
 rw[h1,←h3];simp
theorem TiOk.aggd {t:Nat}{x:TI}(h:TiOk P t x)(hs:x.agg=true):∃ d,P.underlying t=some d∧((∃ fs,d=.struct fs)∨∃ n e,d=.array n e):=by
 obtain⟨d,h1,h2⟩:=h.u
 refine⟨d,h1,?_⟩
 cases d<;>simp[Q2u] at h2<;>first|exact .inl ⟨_,rfl⟩|exact .inr ⟨_,_,rfl⟩|(simp_all;done)
theorem TiOk.strct' {t:Nat}{x:TI}(h:TiOk P t x){f:Nat}{q:Nat×Nat}(hs:x.flds[f]?=some q):∃ fs fd,P.underlying t=some (.struct fs)∧fs[f]?=some fd∧q=(fd.offset,fd.type):=by
 have ha:x.kd=1:=by
  obtain⟨d,h1,h2⟩:=h.u
  cases d<;>simp[Q2u] at h2<;>simp_all
 obtain⟨fs,h1,h2⟩:=h.strct ha
 rw[h2,List.getElem?_map,Option.map_eq_some_iff] at hs
 obtain⟨fd,h3,h4⟩:=hs
 exact⟨fs,fd,h1,by simpa using h3,h4.symm⟩
end
section
variable {w:World} {g:Gh} {ob:List Ob} {v:Value} {x:AV}
theorem PRel.to0 (h:PRel w g.A v x):ARel0 w g ob v x:=by cases h<;>first|exact .val _ ‹_›|exact .nil _|exact .slc _ _ _ _ _ _ ‹_› ‹_› ‹_› ‹_› ‹_›|exact .ref _ _ _ _ ‹_› ‹_›|exact .opt _ _ ‹_› ‹_›
theorem ARel0.to1 (h:ARel0 w g ob v x):ARel1 w g ob v x:=by cases x<;>first|exact h|exact (show False from h).elim
theorem ARel1.to (h:ARel1 w g ob v x):ARel w g ob v x:=by cases x<;>first|exact h|exact (show False from h).elim
theorem ARel0.to (h:ARel0 w g ob v x):ARel w g ob v x:=h.to1.to
theorem PRel.to (h:PRel w g.A v x):ARel w g ob v x:=(PRel.to0 h).to
theorem ARel.valEq {u:Value}(h:ARel w g ob v (.val u)):v=u:=by
 cases (show PRel w g.A v (.val u) from h);rfl
end
theorem ARel0.one {w:World}{g:Gh}{ob:List Ob}{v:Value}{x:AV}(h:ARel0 w g ob v x)(hl:x.live=true):v.oneCell'=true:=by
 cases x with
 |val _=>exact PRel.one h
 |slc _ _=>exact PRel.one h
 |ref _=>exact PRel.one h
 |opt _=>exact PRel.one h
 |box _ _=>rw[h.1];rfl
 |row _ _=>exact h.1
 |rowk _ _ _=>exact h.1
 |rptr _ _ _ _=>exact h.1
 |kb _=>rw[show v=_ from h];rfl
 |iter _=>rw[h.1];rfl
 |dead=>cases hl
 |agg _=>exact h.elim
 |tup _=>exact h.elim
theorem QaB {v:Value}(h:v.oneCell'=true):v.cells=#[v]:=by cases v<;>first|rfl|cases h
theorem ARel.cells {w:World}{g:Gh}{ob:List Ob}{v:Value}{x:AV}(h:ARel w g ob v x)(hl:x.live=true):ARelC w g ob v.cells.toList x.cells:=by
 have one:∀ {v:Value} {x:AV},ARel0 w g ob v x→x.live=true→x.cells=[x]→ARelC w g ob v.cells.toList x.cells:=by
  intro v x h hl hx
  rw[QaB (h.one hl),hx]
  refine⟨rfl,fun j y u hy hu=>?_⟩
  cases j with
  |zero =>
   obtain rfl:v=y:=by simpa using hy
   obtain rfl:x=u:=by simpa using hu
   exact⟨h,h.one hl⟩
  |succ j=>simp at hu
 cases x with
 |agg cs=>obtain⟨vs,rfl,h⟩:=h;exact h
 |tup _=>cases hl
 |dead=>cases hl
 |val a=>exact one (x:=.val a) h hl rfl
 |slc a b=>exact one (x:=.slc a b) h hl rfl
 |ref a=>exact one (x:=.ref a) h hl rfl
 |opt a=>exact one (x:=.opt a) h hl rfl
 |box a b=>exact one (x:=.box a b) h hl rfl
 |row a b=>exact one (x:=.row a b) h hl rfl
 |rowk a b c=>exact one (x:=.rowk a b c) h hl rfl
 |rptr a b c d=>exact one (x:=.rptr a b c d) h hl rfl
 |kb a=>exact one (x:=.kb a) h hl rfl
 |iter a=>exact one (x:=.iter a) h hl rfl
theorem Qkt (v:Value):Qmm v=v.oneCell':=by cases v<;>rfl
def Q1s (w:World)(g:Gh)(s:St)(a:Act):Prop:=∀ t,ARel w g s.ob (a.tmps.getD t undef) (lk t s.tm)
theorem QN {w:World}{g:Gh}{s:St}{a:Act}(hS:Q1s w g s a)(x:Operand):ARel w g s.ob (a.eval x) (ev s x):=by
 cases x with
 |tmp t =>
  have h:=hS t
  simp only[ev,Act.eval]
  cases hl:lk t s.tm with
  |kb b =>
   rw[hl] at h
   have h:a.tmps.getD t undef=.bool b:=h
   rw[h]
   exact .val _ rfl
  |_=>rw[hl] at h;exact h
 |const v =>
  simp only[ev,Act.eval]
  split
  ·rename_i h;exact .val _ (by rw[←Qkt];exact h)
  ·trivial
 |global g=>trivial
 |func f=>exact .val _ rfl
theorem Q8R {q:Nat→Value→Prop}:∀ n,(∀ j,j<n→∃ y,q j y)→∃ l:List Value,l.length=n∧∀ (j:Nat) y,l[j]?=some y→q j y
 |0,_=>⟨[],rfl,fun j y h=>by simp at h⟩
 |n+1,h=>by
  obtain⟨l,h1,h2⟩:=Q8R n (fun j hj=>h j (by omega))
  obtain⟨y,hy⟩:=h n (by omega)
  refine⟨l++[y],by simp[h1],fun j z hz=>?_⟩
  by_cases hj:j<l.length
  ·rw[List.getElem?_append_left hj] at hz;exact h2 j z hz
  ·rw[List.getElem?_append_right (by omega)] at hz
   have:j=n:=by
    have:=Qb hz
    simp at this;omega
   subst this
   rw[h1,Nat.sub_self] at hz
   simp at hz
   subst hz;exact hy
theorem Q6f {sz:Nat}:∀ (xs:List AV),(∀ x∈xs,x.cells.length=sz)→∀ (i:Nat) x,xs[i]?=some x→∀ k,k<sz→(QL xs)[i * sz+k]?=x.cells[k]?
 | [],_,i,x,h,_,_=>by simp at h
 |y::r,hw,0,x,h,k,hk=>by
  simp at h;subst h
  rw[QL,List.flatMap_cons,List.getElem?_append_left (by rw[hw _ List.mem_cons_self];omega)]
  simp
 |y::r,hw,i+1,x,h,k,hk=>by
  rw[QL,List.flatMap_cons,List.getElem?_append_right (by rw[hw _ List.mem_cons_self,Nat.succ_mul];omega),hw _ List.mem_cons_self]
  have:=Q6f r (fun x h=>hw x (List.mem_cons_of_mem _ h)) i x (by simpa using h) k hk
  rw[←this]
  congr 1
  rw[Nat.succ_mul];omega
theorem Q2R {sz:Nat}:∀ (xs:List AV),(∀ x∈xs,x.cells.length=sz)→(QL xs).length=xs.length * sz
 | [],_=>by simp[QL]
 |y::r,hw=>by
  rw[QL,List.flatMap_cons,List.length_append,hw _ List.mem_cons_self,List.length_cons,Nat.succ_mul]
  have:=Q2R r (fun x h=>hw x (List.mem_cons_of_mem _ h))
  unfold QL at this
  omega
theorem RowV.cell {w:World}{g:Gh}{id et sz:Nat}{b c n:Nat}{xs:List AV}(h:RowV w g id et sz (.slice (some ⟨b,0,none⟩) n c) xs) :
  ∀ (j:Nat) u,(QL xs)[j]?=some u→∃ y,w.cell? ⟨b,j,none⟩=some y∧PRel w g.A y u:=by
 obtain⟨ys,ho,hG,hal,hw⟩:=h
 intro j u hu
 have hlt:j<ys.length:=by rw[hal.1];exact Qb hu
 have:=ho.cells (g:=b) rfl j ys[j] (List.getElem?_eq_getElem hlt)
 rw[Addr.add_mid,Nat.zero_add] at this
 exact⟨_,this,hal.2 j _ u (List.getElem?_eq_getElem hlt) hu⟩
section
variable {w:World} {g:Gh} {s:St} {v:Value} {x:AV}
theorem Q8B (M:Mem w g s.ob)(hv:ARel w g s.ob v x){cs:List AV}(h:Q7L s x=some cs) :
  ∃ b o,v=.pointer (some ⟨b,o,none⟩)∧∀ (j:Nat) u,cs[j]?=some u→∃ y,w.cell? ⟨b,o+j,none⟩=some y∧ARel0 w g s.ob y u∧y.oneCell'=true:=by
 cases x<;>simp only[Q7L] at h<;>try (cases h;done)
 case ref l =>
  obtain rfl:l=cs:=by simpa using h
  cases (show PRel w g.A v (.ref l) from hv) with
  |ref b o cs f hcell hrel=>exact⟨b,o,rfl,fun j u hu=>⟨f j,(hcell j u hu).2,(hrel j u hu).to0,(hrel j u hu).one⟩⟩
 case box id off =>
  obtain⟨rfl,_⟩:v=.pointer (some ⟨g.loc id,off,none⟩)∧_:=hv
  refine⟨_,_,rfl,?_⟩
  cases hob:s.ob[id]? with
  |none=>simp[hob] at h
  |some o =>
   cases o<;>simp[hob] at h
   case box c =>
    subst h
    intro j u hu
    obtain⟨h1,cur,T,h2,h3,h4⟩:=M.box id c hob
    rw[List.getElem?_drop] at hu
    have hlt:off+j<cur.size:=by have:=Qb hu;rw[←h3] at this;simpa using this
    refine⟨cur[off+j],by simp[World.cell?,h2,hlt],h4 (off+j) _ u (by simp[hlt]) hu⟩
   case fbox c =>
    subst h
    intro j u hu
    rw[List.getElem?_drop] at hu
    obtain⟨_,y,h2,h3⟩:=M.fbox id c hob _ u hu
    exact⟨y,h2,h3.to0,h3.one⟩
theorem Qb9 {id ep off et sz e:Nat}{fz:Bool}{i:Int}{xs:List AV}(hv:ARel w g s.ob v (.rptr id ep i off))(h1:s.ob[id]?=some (.row et sz fz e xs))(he:e=ep):∃ b o,v=.pointer (some ⟨b,o,none⟩):=by
 obtain⟨_,et,sz,fz,e,xs,h1',h2,h3⟩:=hv
 rw[h1] at h1';cases h1'
 obtain⟨b,c,h4,_⟩:=h3 he
 exact⟨b,_,h4⟩
theorem Qim {id ep off et sz e:Nat}{fz:Bool}{i:Int}{xs:List AV}{b u:Nat}(hv:ARel w g s.ob (.pointer (some ⟨b,u,none⟩)) (.rptr id ep i off))(h1:s.ob[id]?=some (.row et sz fz e xs))(he:e=ep)(d:Nat) :
  ARel w g s.ob (.pointer (some ⟨b,u+d,none⟩)) (.rptr id ep i (off+d)):=by
 obtain⟨_,et,sz,fz,e,xs,h1',h2,h3⟩:=hv
 rw[h1] at h1';cases h1'
 obtain⟨b',c,h4,h5,h6,h7⟩:=h3 he
 refine⟨rfl,_,_,_,_,_,h1,h2,fun _=>⟨b',c,?_,h5,h6,h7⟩⟩
 simp only[Value.pointer.injEq,Option.some.injEq,Addr.mk.injEq] at h4 ⊢
 obtain⟨rfl,rfl,_⟩:=h4
 exact⟨rfl,by omega,trivial⟩
theorem QeJ (M:Mem w g s.ob){id ep off et sz e:Nat}{fz:Bool}{i:Int}{xs:List AV}(hv:ARel w g s.ob v (.rptr id ep i off))(h1:s.ob[id]?=some (.row et sz fz e xs))(he:e=ep) :
  ∃ b o,v=.pointer (some ⟨b,o,none⟩)∧∀ (j:Nat) u,(std.drp (std.cel (std.at_ xs i)) off)[j]?=some u→∃ y,w.cell? ⟨b,o+j,none⟩=some y∧PRel w g.A y u:=by
 obtain⟨_,et,sz,fz,e,xs,h1',h2,h3⟩:=hv
 rw[h1] at h1';cases h1'
 obtain⟨b,c,rfl,h4,h5,h6⟩:=h3 he
 refine⟨b,_,rfl,fun j u hu=>?_⟩
 have hi:xs[i.toNat]?=some (xs.getD i.toNat .dead):=by
  have:i.toNat<xs.length:=by omega
  rw[List.getD_eq_getElem?_getD,List.getElem?_eq_getElem this];rfl
 have hw:=(M.roww _ _ _ _ _ _ h1).2
 have hu:((xs.getD i.toNat .dead).cells.drop off)[j]?=some u:=hu
 rw[List.getElem?_drop] at hu
 have hk:off+j<sz:=by
  have:=Qb hu
  rw[←hw _ (List.mem_of_getElem? hi)];exact this
 have:=Q6f xs hw i.toNat _ hi (off+j) hk
 obtain⟨y,h7,h8⟩:=h6.cell _ u (this.trans hu)
 rw[←Nat.add_assoc] at h7
 exact⟨y,h7,h8⟩
theorem Qgq {cs:List AV}(hv:ARel w g s.ob v (.ref cs)):∃ b o,v=.pointer (some ⟨b,o,none⟩)∧∀ (j:Nat) u,cs[j]?=some u→∃ y,w.cell? ⟨b,o+j,none⟩=some y∧PRel w g.A y u:=by
 cases (show PRel w g.A v (.ref cs) from hv) with
 |ref b o cs f hcell hrel=>exact⟨b,o,rfl,fun j u hu=>⟨f j,(hcell j u hu).2,hrel j u hu⟩⟩
theorem Qcs {A:Nat→Nat→Prop}{v:Value}{x:AV}(h:PRel w A v x)(hp:Q4Z x) :
  (Q6Y x=true∧v=.pointer none)∨(Q6Y x=false∧∃ b o,v=.pointer (some ⟨b,o,none⟩)∧PRel w A v (.ref (Qd1 x))):=by
 induction h with
 |val v hv =>
  cases v with
  |pointer p =>
   cases p with
   |none=>exact .inl ⟨rfl,rfl⟩
   |some _=>exact (show False from hp).elim
  |_=>exact (show False from hp).elim
 |nil sz=>exact (show False from hp).elim
 |slc=>exact (show False from hp).elim
 |ref b o cs f h1 h2=>exact .inr ⟨rfl,b,o,rfl,.ref b o cs f h1 h2⟩
 |opt v x h hx ih=>exact ih hx
theorem PRel.ofOpt {A:Nat→Nat→Prop}{v:Value}{x:AV}(h:PRel w A v (.opt x)):PRel w A v x∧Q4Z x:=by
 cases h with
 |opt _ _ h1 h2=>exact⟨h1,h2⟩
theorem Qhk {v:Value}{c:AV}(h:PRel w g.A v c){l:Lf}(hl:l.has std c):PRel w g.A v (l.exp std c):=by
 cases l with
 |int k =>
  have e:c=.val (.int k (intOf c)):=hl
  show PRel w g.A v (.val (.int k (intOf c)))
  rw[←e];exact h
 |boo =>
  have e:c=.val (.bool (Q5e c)):=hl
  show PRel w g.A v (.val (.bool (Q5e c)))
  rw[←e];exact h
 |str =>
  have e:c=.val (.string (Q9k c)):=hl
  show PRel w g.A v (.val (.string (Q9k c)))
  rw[←e];exact h
 |slc sz =>
  show PRel w g.A v (.slc sz (Q2o c))
  rcases (show c=.slc sz (Q2o c)∨c=.val (.slice none 0 0) from hl) with e|e
  ·rw[←e];exact h
  ·subst e
   cases h
   exact PRel.nil sz
 |ptr =>
  show PRel w g.A v (.opt (QlP c))
  cases c<;>first|exact h|exact PRel.opt _ _ h hl
theorem Qds {b o:Nat}{cs:List AV}(hc:∀ (j:Nat) u,cs[j]?=some u→∃ y,w.cell? ⟨b,o+j,none⟩=some y∧PRel w g.A y u) :
  ∀ (ls:List Lf) (k:Nat),Q3p (QbC std cs k ls)→∀ (j:Nat) u,(Qat std cs k ls)[j]?=some u→∃ y,w.cell? ⟨b,o+(k+j),none⟩=some y∧ARel0 w g s.ob y u∧y.oneCell'=true
 | [],_,_,j,u,hu=>by simp[Qat] at hu
 |l::r,k,h,j,u,hu=>by
  obtain⟨h1,h2⟩:=h
  cases j with
  |zero =>
   obtain rfl:l.exp std (std.nth cs k)=u:=by simpa[Qat] using hu
   have hk:cs[k]?=some (std.nth cs k):=by
    show cs[k]?=some (cs.getD k .dead)
    rw[List.getD_eq_getElem?_getD]
    cases hx:cs[k]? with
    |some x=>rfl
    |none =>
     exfalso
     have e:std.nth cs k=.dead:=by show cs.getD k .dead=.dead;rw[List.getD_eq_getElem?_getD,hx];rfl
     rw[e] at h1
     cases l with
     |int _=>exact AV.noConfusion (show AV.dead=_ from h1)
     |boo=>exact AV.noConfusion (show AV.dead=_ from h1)
     |str=>exact AV.noConfusion (show AV.dead=_ from h1)
     |slc _=>rcases (show AV.dead=_∨AV.dead=_ from h1) with h|h<;>cases h
     |ptr=>exact h1
   obtain⟨y,h3,h4⟩:=hc k _ hk
   have:=Qhk h4 h1
   exact⟨y,h3,this.to0,this.one⟩
  |succ j =>
   obtain⟨y,h3,h4⟩:=Qds hc r (k+1) h2 j u (by simpa[Qat] using hu)
   exact⟨y,by rw[show k+(j+1)=k+1+j by omega];exact h3,h4⟩
theorem QcB (cs:List AV):∀ (ls:List Lf) (k:Nat),(Qat std cs k ls).length=ls.length
 | [],_=>rfl
 |l::r,k=>by simp[Qat,QcB cs r]
theorem Q4k (M:Mem w g s.ob)(hv:ARel w g s.ob v x){sz:Nat}{xs:List AV}(h:Q6W std s x=some (sz,xs)) :
  ∃ A c ys,v=.slice A xs.length c∧Rd w (fun _=>True) sz A xs.length c ys∧Alike w g.A ys (QL xs):=by
 have own:∀ {id et:Nat} {v:Value} {xs:List AV},RowV w g id et sz v xs→∃ A c ys,v=.slice A xs.length c∧Rd w (fun _=>True) sz A xs.length c ys∧Alike w g.A ys (QL xs):=by
  intro id et v xs h
  obtain⟨ys,ho,hG,hal,hw⟩:=h
  obtain⟨A,c,rfl,hr⟩:=Q47 ho
  exact⟨A,c,ys,rfl,hr.more fun _ _=>trivial,hal⟩
 cases x<;>simp only[Q6W] at h<;>try (cases h;done)
 case slc sz' l =>
  obtain⟨rfl,rfl⟩:sz'=sz∧l=xs:=by simpa using h
  cases (show PRel w g.A v (.slc sz' l) from hv) with
  |nil=>exact⟨none,0,[],rfl,⟨by simp,Nat.le_refl _,Nat.zero_le _,fun _=>rfl,fun h=>absurd h (by simp)⟩,Alike.nil⟩
  |slc b o c _ _ f hc hm hw hcell hrel =>
   obtain⟨ys,h1,h2⟩:=Q8R (q:=fun j y=>∃ u,(QL l)[j]?=some u∧y=f j) (QL l).length (fun j hj=>⟨f j,_,List.getElem?_eq_getElem hj,rfl⟩)
   refine⟨_,c,ys,rfl,⟨by rw[h1,Q2R l hw],hc,hm,fun h=>(by cases h),fun _=>⟨b,o,rfl,trivial,fun j u hu=>?_⟩⟩,h1,fun j y u hy hu=>?_⟩
   ·obtain⟨u',hu',rfl⟩:=h2 j u hu
    exact (hcell j u' hu').2
   ·obtain⟨u',hu',rfl⟩:=h2 j y hy
    exact hrel j u hu
 case row id ep =>
  obtain⟨_,et,sz',fz,e,xs',h1,h2,h3⟩:=hv
  simp only[h1] at h
  split at h
  ·rename_i he
   obtain⟨rfl,rfl⟩:sz'=sz∧xs'=xs:=by simpa using h
   exact own (h3 he)
  ·cases h
 case rowk id ep k =>
  obtain⟨_,et,sz',fz,e,xs',h1,h2,h3⟩:=hv
  simp only[h1] at h
  split at h
  ·rename_i he
   obtain⟨rfl,hx⟩:sz'=sz∧std.cut xs' 0 k=xs:=by simpa using h
   obtain⟨h4,h5,h6⟩:=h3 he
   have e:std.cut xs' 0 k=xs'.take k.toNat:=by simp[std]
   rw[e] at hx
   subst hx
   exact own h6
  ·cases h
end
end Go.Proofs.YthbjpdijafccjaaGreat
namespace Go.Proofs.YthbjpdijafccjaaGreat
open Go.RowKit Go.Lib
def Q82:Op→Bool
 |.load _ _=>true
 |.convert _ _ _=>true
 |_=>false
section
variable {P:Program} {ty:Tys} {w:World} {g:Gh} {s:St} {a:Act}
def Yld (P:Program)(w:World)(g:Gh)(s:St)(a:Act)(o:Oper)(r:Bool)(x:AV):Prop :=
 ∃ v,(∀ W,(r=true→LeB w W)→(execOp a.eval o).run P W=.ok (.value v) W)∧ARel w g s.ob v x
theorem QeQ {S:Sem Value}{W:World}{v:Value}(h:S.run P W=.ok v W):(do pure (Next.value (←S)):Sem Next).run P W=.ok (.value v) W:=by
 rw[Sem.run_bind,h];rfl
theorem Q2q {o:Oper}{r:Bool}{x:AV}{S:Sem Value}(hx:∀ W,(execOp a.eval o).run P W=(do pure (Next.value (←S)):Sem Next).run P W)
  (h:∃ v,(∀ W,(r=true→LeB w W)→S.run P W=.ok v W)∧ARel w g s.ob v x):Yld P w g s a o r x:=by
 obtain⟨v,h1,h2⟩:=h
 exact⟨v,fun W hW=>by rw[hx,QeQ (h1 W hW)],h2⟩
theorem Q9G {W:World}{b o:Nat}{y:Value}(h:w.cell? ⟨b,o,none⟩=some y)(hW:LeB w W):W.cell? ⟨b,o,none⟩=some y :=
 (World.cell?_of_block (hW.block b (World.block_lt_of_cell? w _ h))).trans h
theorem Q74 (hT:TyOk P ty){T:Nat}(hok:(Q4 T ty).ok=true){b o:Nat}{cs:List AV}
  (hc:∀ (j:Nat) u,cs[j]?=some u→∃ y,w.cell? ⟨b,o+j,none⟩=some y∧ARel0 w g s.ob y u∧y.oneCell'=true)
  (hl:(if (Q4 T ty).agg then (Q4 T ty).size else 1)≤cs.length) :
  ∃ v,(∀ W,LeB w W→(loadVar T ⟨b,o,none⟩).run P W=.ok v W)∧ARel w g s.ob v (mk ty T cs):=by
 have ti:=Q32 hT hok
 cases ha:(Q4 T ty).agg with
 |true =>
  rw[ha] at hl
  simp only[if_true] at hl
  obtain⟨l,h1,h2⟩:=Q8R (q:=fun j y=>w.cell? ⟨b,o+j,none⟩=some y∧∀ u,cs[j]?=some u→ARel0 w g s.ob y u∧y.oneCell'=true) (Q4 T ty).size (fun j hj=>by
   obtain⟨y,h1,h2⟩:=hc j _ (List.getElem?_eq_getElem (by omega))
   exact⟨y,h1,fun u hu=>by rw[List.getElem?_eq_getElem (by omega)] at hu;cases hu;exact h2⟩)
  obtain⟨d,hu,hd⟩:=ti.aggd ha
  obtain⟨i,z,hi,hi2,_⟩:=ti.i
  refine⟨.agg l.toArray,fun W hW=>run_loadVar_mid (P:=P) W b o T l d (fun j v hv=>Q9G (h2 j v hv).1 hW) hu (by rcases hd with ⟨_,rfl⟩|⟨_,_,rfl⟩<;>rfl) (by rw[hi];simp[hi2,h1]),?_⟩
  rw[mk,ha]
  simp only[if_true]
  refine⟨l.toArray,rfl,by simp[h1];omega,fun j y u hy hu=>?_⟩
  rw[List.getElem?_take] at hu
  split at hu
  ·exact (h2 j y (by simpa using hy)).2 u hu
  ·cases hu
 |false =>
  rw[ha] at hl
  simp only[Bool.false_eq_true,if_false] at hl
  cases cs with
  |nil=>simp at hl
  |cons u r =>
   obtain⟨y,h1,h2,h3⟩:=hc 0 u rfl
   refine⟨y,fun W hW=>?_,?_⟩
   ·have:=ti.isAgg W
    rw[ha] at this
    have h4:=Q9G h1 hW
    rw[Nat.add_zero] at h4
    simp[loadVar,this,h4]
   ·rw[mk,ha]
    simp only[Bool.false_eq_true,if_false,List.headD_cons]
    exact h2.to
theorem Qie (hT:TyOk P ty)(hS:Q1s w g s a)(M:Mem w g s.ob){o:Oper}{T:Nat}{x:Operand}(ho:o.op=.load T x){cs:List AV}(hcs:Q7L s (ev s x)=some cs)
  (hok:(Q4 T ty).ok=true) (hl:(if (Q4 T ty).agg then (Q4 T ty).size else 1)≤cs.length):Yld P w g s a o true (mk ty T cs):=by
 obtain⟨b,of,hv,hc⟩:=Q8B M (QN hS x) hcs
 obtain⟨v,h1,h2⟩:=Q74 (g:=g) hT hok hc hl
 refine Q2q (S:=Instr.loadAt T (a.eval x)) (fun W=>by simp only[execOp,ho]) ⟨v,fun W hW=>?_,h2⟩
 rw[hv]
 simpa[Instr.loadAt,Instr.sureAddr] using h1 W (hW rfl)
theorem Qft (hT:TyOk P ty){o:Oper}{T:Nat}{x:Operand}(ho:o.op=.load T x){cs:List AV}
  (hr:∃ b of,a.eval x=.pointer (some ⟨b,of,none⟩)∧∀ (j:Nat) u,cs[j]?=some u→∃ y,w.cell? ⟨b,of+j,none⟩=some y∧PRel w g.A y u)
  {q:Option DP} {z:AV} (h:Qlb std ty T cs=some (q,z)) (hq:∀ r,q=some r→r):Yld P w g s a o true z:=by
 obtain⟨b,of,hv,hc⟩:=hr
 unfold Qlb at h
 split at h
 ·rename_i ls hls
  by_cases hk:(Q4 T ty).ok=true∧ls.length=(Q4 T ty).size
  ·rw[if_pos hk] at h
   simp only[Option.some.injEq,Prod.mk.injEq] at h
   obtain⟨rfl,rfl⟩:=h
   have hA:Q3p (QbC std cs 0 ls):=hq _ rfl
   have hl:(if (Q4 T ty).agg then (Q4 T ty).size else 1)≤(Qat std cs 0 ls).length:=by
    rw[QcB,hk.2]
    cases hag:(Q4 T ty).agg with
    |true=>exact Nat.le_refl _
    |false=>have:=(Q32 hT hk.1).one hag;simp;omega
   obtain⟨v,h1,h2⟩:=Q74 (g:=g) hT hk.1 (b:=b) (o:=of) (cs:=Qat std cs 0 ls) (fun j u hu=>by
    have:=Qds (s:=s) hc ls 0 hA j u hu
    rw[Nat.zero_add] at this
    exact this) hl
   refine Q2q (S:=Instr.loadAt T (a.eval x)) (fun W=>by simp only[execOp,ho]) ⟨v,fun W hW=>?_,h2⟩
   rw[hv]
   simpa[Instr.loadAt,Instr.sureAddr] using h1 W (hW rfl)
  ·rw[if_neg hk] at h;cases h
 ·cases h
theorem Q52 (hT:TyOk P ty)(hS:Q1s w g s a){o:Oper}{T:Nat}{x:Operand}{f off t:Nat}(ho:o.op=.fieldAddr T x f)
  (hf:(Q4 T ty).flds[f]?=some (off,t)) (hfo:fOk ty t=true) {y:AV}
  (hy:∀ b u,ARel w g s.ob (.pointer (some ⟨b,u,none⟩)) (ev s x)→ARel w g s.ob (.pointer (some ⟨b,u+off,none⟩)) y)
  (hp:∃ b u,a.eval x=.pointer (some ⟨b,u,none⟩)):Yld P w g s a o false y:=by
 obtain⟨b,u,hv⟩:=hp
 have hr:=QN hS x
 rw[hv] at hr
 obtain⟨fs,fd,h1,h2,h3⟩:=(Qes hT hf).strct' hf
 obtain⟨rfl,rfl⟩:off=fd.offset∧t=fd.type:=by simpa using h3
 simp only[fOk,Bool.and_eq_true,bne_iff_ne,ne_eq] at hfo
 refine Q2q (S:=Instr.fieldAt T (a.eval x) f) (fun W=>by simp only[execOp,ho]) ⟨_,fun W _=>?_,hy b u hr⟩
 have hs:=(Q32 hT hfo.1).size W
 rw[hv]
 simp[Instr.fieldAt,run_underlying h1,h2,Instr.sureAddr,fieldPlace,hs,hfo.2,Addr.add_mid]
theorem Q5i {x:AV}{v:Value}(h:ARel w g s.ob v x)(hx:(∃ cs,x=.ref cs)∨(∃ i o,x=.box i o)):∃ b u,v=.pointer (some ⟨b,u,none⟩):=by
 rcases hx with ⟨cs,rfl⟩|⟨i,o,rfl⟩
 ·cases (show PRel w g.A v (.ref cs) from h) with
  |ref b u cs f h1 h2=>exact⟨b,u,rfl⟩
 ·exact⟨_,_,h.1⟩
theorem QjQ {cs:List AV}{b u:Nat}(h:ARel w g s.ob (.pointer (some ⟨b,u,none⟩)) (.ref cs))(off:Nat):ARel w g s.ob (.pointer (some ⟨b,u+off,none⟩)) (.ref (cs.drop off)):=by
 cases (show PRel w g.A _ (.ref cs) from h) with
 |ref b u cs f h1 h2 =>
  refine PRel.ref _ _ _ (fun j=>f (off+j)) (fun j x hx=>?_) (fun j x hx=>?_)
  ·rw[List.getElem?_drop] at hx
   rw[Nat.add_assoc]
   exact h1 _ x hx
  ·rw[List.getElem?_drop] at hx
   exact h2 _ x hx
theorem QaD (hT:TyOk P ty){T sz:Nat}(hel:Q60 ty T sz=true){A:Option Addr}{n c:Nat}{k:IntKind}{i:Int}{b o:Nat}(hA:A=some ⟨b,o,none⟩)(h0:0≤i)(h1:i<n)(W:World) :
  (Instr.indexAt T (.slice A n c) (.int k i)).run P W=.ok (.pointer (some ⟨b,o+i.toNat * sz,none⟩)) W:=by
 simp only[Q60,Bool.and_eq_true,beq_iff_eq,bne_iff_ne,ne_eq] at hel
 obtain⟨⟨⟨⟨h2,h3⟩,h4⟩,h5⟩,h6⟩:=hel
 have hu:=(Q32 hT h2).slice h3
 have hs:=(Q32 hT h4).size W
 subst hA
 have h7:(0≤i∧i<(n:Int))=True:=by simp[h0,h1]
 simp[Instr.indexAt,asIntOf,run_underlying hu,h0,h1,hs,Addr.add_mid,h5]
theorem Qlw {xs:List AV}{i:Int}(h0:0≤i)(h1:i<xs.length):xs[i.toNat]?=some (std.at_ xs i):=by
 have h:i.toNat<xs.length:=by omega
 show xs[i.toNat]?=some (xs.getD i.toNat .dead)
 rw[List.getD_eq_getElem?_getD,List.getElem?_eq_getElem h];rfl
theorem Qag (hT:TyOk P ty)(hS:Q1s w g s a)(M:Mem w g s.ob){o:Oper}{T:Nat}{x i:Operand}{q:Option DP}{y:AV}(ho:o.op=.indexAddr T x i)
  (h:Q2E std ty s o.op=some (q,y)) (hq:∀ r,q=some r→r):Yld P w g s a o false y:=by
 rw[ho] at h
 simp only[Q2E] at h
 have hx:=QN hS x
 have hi:=QN hS i
 refine Q2q (S:=Instr.indexAt T (a.eval x) (a.eval i)) (fun W=>by simp only[execOp,ho]) ?_
 split at h
 ·rename_i k n hei
  rw[hei] at hi
  rw[hi.valEq]
  split at h
  ·rename_i sz xs hex
   rw[hex] at hx
   split at h
   ·rename_i hel
    simp only[Option.some.injEq,Prod.mk.injEq] at h
    obtain⟨rfl,rfl⟩:=h
    obtain⟨h0,h1⟩:0≤n∧n<(xs.length:Int):=hq _ rfl
    generalize a.eval x=vx at hx
    cases (show PRel w g.A _ (.slc sz xs) from hx) with
    |nil=>simp at h1;omega
    |slc b o c _ _ f hc hm hw hcell hrel =>
     refine⟨_,fun W _=>QaD hT hel rfl h0 h1 W,?_⟩
     have hg:=Qlw h0 h1
     have hwx:=hw _ (List.mem_of_getElem? hg)
     refine PRel.ref _ _ _ (fun j=>f (n.toNat * sz+j)) (fun j u hu=>?_) (fun j u hu=>?_)
     ·have:=Q6f xs hw _ _ hg j (by rw[←hwx];exact Qb hu)
      rw[Nat.add_assoc]
      exact hcell _ u (this.trans hu)
     ·have:=Q6f xs hw _ _ hg j (by rw[←hwx];exact Qb hu)
      exact hrel _ u (this.trans hu)
   ·cases h
  ·rename_i id ep hex
   rw[hex] at hx
   obtain⟨_,et,sz,fz,e,xs,h1,h2,h3⟩:=hx
   simp only[h1] at h
   split at h
   ·rename_i hel
    simp only[Option.some.injEq,Prod.mk.injEq] at h
    obtain⟨rfl,rfl⟩:=h
    obtain⟨h4,h5⟩:0≤n∧n<(xs.length:Int):=hq _ rfl
    obtain⟨ys,ho1,h6,h7,h8⟩:=h3 hel.1
    rcases ho1.2 with ⟨h9,h10⟩|⟨b,cap,cur,hv,h9⟩
    ·omega
    ·rw[hv]
     refine⟨_,fun W _=>QaD hT hel.2 rfl h4 h5 W,rfl,et,sz,fz,e,xs,h1,h2,fun _=>⟨b,cap,by simp,h4,h5,?_⟩⟩
     exact⟨ys,hv ▸ ho1,by rw[←hv];exact h6,h7,by rw[←hv];exact h8⟩
   ·cases h
  ·cases h
 ·cases h
theorem PRel.cut {b o c n sz:Nat}{xs:List AV}{A:Nat→Nat→Prop}(h:PRel w A (.slice (some ⟨b,o,none⟩) n c) (.slc sz xs)){l k:Nat}(hl:l≤k)(hk:k≤xs.length)(c':Nat)(hc':k-l≤c')(hm':c'≤maxLen) :
  PRel w A (.slice (some ⟨b,o+l * sz,none⟩) (k-l) c') (.slc sz ((xs.drop l).take (k-l))):=by
 cases h with
 |slc b o c _ _ f hc hm hw hcell hrel =>
  have hlen:((xs.drop l).take (k-l)).length=k-l:=by simp;omega
  have hfl:∀ j u,(QL ((xs.drop l).take (k-l)))[j]?=some u→(QL xs)[l * sz+j]?=some u:=by
   intro j u hu
   have hw':∀ x∈(xs.drop l).take (k-l),x.cells.length=sz:=fun x hx=>hw x (List.mem_of_mem_drop (List.mem_of_mem_take hx))
   have e:QL xs=QL (xs.take l)++(QL ((xs.drop l).take (k-l))++QL ((xs.drop l).drop (k-l))):=by
    rw[←List.flatMap_append,List.take_append_drop,←List.flatMap_append,List.take_append_drop]
   have h1:(QL (xs.take l)).length=l * sz:=by
    rw[Q2R _ (fun x hx=>hw x (List.mem_of_mem_take hx)),List.length_take,Nat.min_eq_left (by omega)]
   rw[e,List.getElem?_append_right (by omega),h1,Nat.add_sub_cancel_left,List.getElem?_append_left (Qb hu)]
   exact hu
  have:=PRel.slc (w:=w) (A:=A) b (o+l * sz) c' sz ((xs.drop l).take (k-l)) (fun j=>f (l * sz+j)) (by omega) hm' (fun x hx=>hw x (List.mem_of_mem_drop (List.mem_of_mem_take hx)))
   (fun j u hu=>by rw[Nat.add_assoc];exact hcell _ u (hfl j u hu)) (fun j u hu=>hrel _ u (hfl j u hu))
  rw[hlen] at this
  exact this
end
end Go.Proofs.YthbjpdijafccjaaGreat
namespace Go.Proofs.YthbjpdijafccjaaGreat
open Go.RowKit Go.Lib
section
variable {P:Program} {ty:Tys} {w:World} {g:Gh} {s:St} {a:Act}
theorem Q4H (hT:TyOk P ty){T sz:Nat}(hel:Q60 ty T sz=true):∃ e,P.underlying T=some (.slice e)∧e=(Q4 T ty).elem∧TiOk P e (Q4 e ty)∧(Q4 e ty).size=sz∧0<sz:=by
 simp only[Q60,Bool.and_eq_true,beq_iff_eq,bne_iff_ne,ne_eq] at hel
 obtain⟨⟨⟨⟨h2,h3⟩,h4⟩,h5⟩,h6⟩:=hel
 exact⟨_,(Q32 hT h2).slice h3,rfl,Q32 hT h4,h5.symm,by omega⟩
theorem Q6N {W:World}{k:IntKind}{i:Int}{y:Nat}{code:BoundsCode}(h0:0≤i)(h1:i≤y):(Instr.sliceBound (.int k i) y code).run P W=.ok i.toNat W:=by
 simp[Instr.sliceBound,asIntOf,h0,h1]
theorem Q6F (hT:TyOk P ty){T sz:Nat}(hel:Q60 ty T sz=true)(A:Option Addr)(n c:Nat)(lo hi:Option Value){l h:Nat}
  (hlo:lo=none∧l=0∨∃ k,lo=some (.int k (l:Int))) (hhi:hi=none∧h=n∨∃ k,hi=some (.int k (h:Int))) (h1:l≤h) (h2:h≤c) (W:World) :
  (Instr.slice T (.slice A n c) lo hi none).run P W=.ok (.slice (if c=l then A else A.map (·.add (l * sz))) (h-l) (c-l)) W:=by
 obtain⟨e,hu,he,ti,hsz,_⟩:=Q4H hT hel
 have hs:=ti.size W
 rw[hsz] at hs
 have e1:∀ (k:IntKind),(Instr.sliceBound (.int k (h:Int)) c .sliceAcap).run P W=.ok h W:=fun k=>by
  rw[Q6N (by omega) (by omega)];simp
 have e2:∀ (k:IntKind),(Instr.sliceBound (.int k (l:Int)) h .sliceB).run P W=.ok l W:=fun k=>by
  rw[Q6N (by omega) (by omega)];simp
 rcases hlo with ⟨rfl,rfl⟩|⟨k,rfl⟩<;>rcases hhi with ⟨rfl,rfl⟩|⟨k',rfl⟩ <;>
  simp[Instr.slice,run_underlying hu,Instr.sliceBounds,e1,e2,hs]
theorem Q4V (hT:TyOk P ty){T sz:Nat}(hel:Q60 ty T sz=true)(x:Value)(lo hi mx:Option Value)(W:World) :
  (Instr.sliceAt T x lo hi mx).run P W=(Instr.slice T x lo hi mx).run P W:=by
 obtain⟨e,hu,_⟩:=Q4H hT hel
 simp[Instr.sliceAt,run_underlying hu]
theorem Q3U (hT:TyOk P ty){o:Oper}{T:Nat}{x:Operand}{lo hi:Option Operand}(ho:o.op=.slice T x lo hi none){sz:Nat}{xs:List AV}(hel:Q60 ty T sz=true)
  (hx:ARel w g s.ob (a.eval x) (.slc sz xs)) {l h:Int} (hlo:lo.map a.eval=none∧l=0∨∃ k,lo.map a.eval=some (.int k l)) (hhi:hi.map a.eval=none∧h=xs.length∨∃ k,hi.map a.eval=some (.int k h))
  (hok:0≤l∧l≤h∧h≤xs.length):Yld P w g s a o false (.slc sz (std.cut xs l h)):=by
 obtain⟨h0,h1,h2⟩:=hok
 obtain⟨l,rfl⟩:∃ l':Nat,l=l':=⟨l.toNat,by omega⟩
 obtain⟨h,rfl⟩:∃ h':Nat,h=h':=⟨h.toNat,by omega⟩
 have ec:std.cut xs l h=(xs.drop l).take (h-l):=by
  show (xs.drop (l:Int).toNat).take ((h:Int)-l).toNat=_
  rw[Int.toNat_natCast,show ((h:Int)-l).toNat=h-l by omega]
 rw[ec]
 have hlo':lo.map a.eval=none∧l=0∨∃ k,lo.map a.eval=some (.int k (l:Int)):=hlo.imp (fun⟨a,b⟩=>⟨a,by omega⟩) id
 have hhi':hi.map a.eval=none∧h=xs.length∨∃ k,hi.map a.eval=some (.int k (h:Int)):=hhi.imp (fun⟨a,b⟩=>⟨a,by omega⟩) id
 refine Q2q (S:=Instr.sliceAt T (a.eval x) (lo.map a.eval) (hi.map a.eval) none) (fun W=>by simp only[execOp,ho];rfl) ?_
 generalize a.eval x=v at hx
 cases (show PRel w g.A v (.slc sz xs) from hx) with
 |nil =>
  simp at h2
  refine⟨.slice none 0 0,fun W _=>?_,?_⟩
  ·rw[Q4V hT hel,Q6F hT hel none 0 0 _ _ hlo' (by simpa using hhi') (by omega) (by omega)]
   have:l=0∧h=0:=by omega
   obtain⟨rfl,rfl⟩:=this
   simp
  ·simp only[List.drop_nil,List.take_nil];exact PRel.nil _
 |slc b of c _ _ f hc hm hw hcell hrel =>
  have hle:h≤c:=by omega
  refine⟨_,fun W _=>by rw[Q4V hT hel,Q6F hT hel _ _ _ _ _ hlo' hhi' (by omega) hle],?_⟩
  by_cases e:c=l
  ·rw[if_pos e]
   have hh:h-l=0:=by omega
   rw[hh]
   simp only[List.take_zero]
   exact PRel.slc (w:=w) (A:=g.A) b of (c-l) sz [] f (by simp) (by omega) (by simp) (fun j u hu=>by simp[QL] at hu) (fun j u hu=>by simp[QL] at hu)
  ·rw[if_neg e]
   have:=PRel.cut (PRel.slc (w:=w) (A:=g.A) b of c sz xs f hc hm hw hcell hrel) (l:=l) (k:=h) (by omega) (by omega) (c-l) (by omega) (by omega)
   have e2:((some (⟨b,of,none⟩:Addr)).map (·.add (l * sz)))=some ⟨b,of+l * sz,none⟩:=by simp[Addr.add_mid]
   rw[e2]
   exact this
theorem Qhx {et sz:Nat}{b c n k:Nat}{ys:List Value}(h:w.ownsRow 0 et sz (.slice (some ⟨b,0,none⟩) n c) n ys)(hk:k≤n):w.ownsRow 0 et sz (.slice (some ⟨b,0,none⟩) k c) k (ys.take (k * sz)):=by
 obtain⟨h1,h2⟩:=h
 rcases h2 with ⟨h2,_⟩|⟨b',cap,cur,hv,h3,h4,h5,h6,h7,h8⟩
 ·cases h2
 ·obtain⟨rfl,rfl⟩:b=b'∧c=cap:=by simpa using hv
  have hmul:k * sz≤n * sz:=Nat.mul_le_mul_right _ hk
  refine⟨by rw[List.length_take,h1];omega,.inr ⟨b,c,cur,rfl,h3,h4,by omega,h6,h7,?_⟩⟩
  rw[←h8,List.take_take,Nat.min_eq_left hmul]
theorem QfN {sz:Nat}{xs:List AV}(hw:∀ x∈xs,x.cells.length=sz){k:Nat}(hk:k≤xs.length):QL (xs.take k)=(QL xs).take (k * sz):=by
 have h1:(QL (xs.take k)).length=k * sz:=by
  rw[Q2R _ (fun x hx=>hw x (List.mem_of_mem_take hx)),List.length_take,Nat.min_eq_left (by omega)]
 have e:QL xs=QL (xs.take k)++QL (xs.drop k):=by rw[←List.flatMap_append,List.take_append_drop]
 rw[e]
 exact ((List.take_append_of_le_length (l₂:=QL (xs.drop k)) (Nat.le_of_eq h1.symm)).trans (List.take_of_length_le (Nat.le_of_eq h1))).symm
theorem RowV.take {id et sz:Nat}{v:Value}{xs:List AV}(h:RowV w g id et sz v xs){b c:Nat}(hv:v=.slice (some ⟨b,0,none⟩) xs.length c){k:Nat}(hk:k≤xs.length) :
  RowV w g id et sz (.slice (some ⟨b,0,none⟩) k c) (xs.take k):=by
 subst hv
 obtain⟨ys,ho,hG,hal,hw,hsub⟩:=h
 have hl:(xs.take k).length=k:=by rw[List.length_take];omega
 refine⟨ys.take (k * sz),by rw[hl];exact Qhx ho hk,fun b' h=>hG b' h,?_,fun x hx=>hw x (List.mem_of_mem_take hx),fun b' h=>hsub.1 b' h,fun he j y hy hj=>?_⟩
 ·rw[QfN hw hk]
  exact hal.take _
 ·have old:∀ {j:Nat} {y:Value},(ys.take (k * sz))[j]?=some y→ys[j]?=some y:=fun {j y} h=>by
   rw[List.getElem?_take] at h
   split at h
   ·exact h
   ·cases h
  obtain⟨h1,h2⟩:=hsub.2 he j y (old hy) hj
  exact⟨h1,fun i z b hz hi=>h2 i z b (old hz) hi⟩
theorem Qar (hT:TyOk P ty){o:Oper}{T:Nat}{x:Operand}{hi:Operand}(ho:o.op=.slice T x none (some hi) none){id ep et sz:Nat}{fz:Bool}{e:Nat}{xs:List AV}(hel:Q60 ty T sz=true)
  (h1:s.ob[id]?=some (.row et sz fz e xs)) (he:e=ep) (hx:RowV w g id et sz (a.eval x) xs) {k:IntKind} {h:Int} (hhi:a.eval hi=.int k h)
  (hok:0≤h∧h≤xs.length):Yld P w g s a o false (.rowk id ep h):=by
 obtain⟨h,rfl⟩:∃ h':Nat,h=h':=⟨h.toNat,by omega⟩
 have hle:h≤xs.length:=by omega
 refine Q2q (S:=Instr.sliceAt T (a.eval x) none (some (a.eval hi)) none) (fun W=>by simp only[execOp,ho];rfl) ?_
 have hx0:=hx
 obtain⟨ys,hown,hG,hal,hw⟩:=hx
 rcases hown.2 with ⟨h2,h3⟩|⟨b,cap,cur,hv,h3,h4,h5,h6,h7,h8⟩
 ·have hxs:xs=[]:=List.eq_nil_of_length_eq_zero h3
  subst hxs
  obtain rfl:h=0:=by simpa using hle
  refine⟨.slice none 0 0,fun W _=>?_,rfl,et,sz,fz,e,[],h1,by omega,fun _=>⟨by omega,by simp,?_⟩⟩
  ·rw[h2,Q4V hT hel,Q6F hT hel none 0 0 none _ (.inl ⟨rfl,rfl⟩) (.inr ⟨k,by rw[hhi]⟩) (by omega) (by omega)]
   simp
  ·simp only[List.take_nil]
   rw[h2] at hx0
   exact hx0
 ·have hc:h≤cap:=by omega
  refine⟨.slice (some ⟨b,0,none⟩) h cap,fun W _=>?_,rfl,et,sz,fz,e,xs,h1,by omega,fun _=>⟨by omega,hok.2,?_⟩⟩
  ·rw[hv,Q4V hT hel,Q6F hT hel _ _ _ none _ (.inl ⟨rfl,rfl⟩) (.inr ⟨k,by rw[hhi]⟩) (by omega) hc]
   simp[Addr.add_mid]
  ·rw[Int.toNat_natCast]
   exact hx0.take hv hle
theorem Q5p {o:Oper}{x:AV}{v:Value}(h:∀ W,(execOp a.eval o).run P W=.ok (.value v) W)(hr:ARel w g s.ob v x)(r:Bool):Yld P w g s a o r x:=⟨v,fun W _=>h W,hr⟩
theorem QbB (hS:Q1s w g s a)(x:Operand):ARel w g s.ob (a.eval x) (evk s x):=by
 cases x with
 |tmp t=>exact hS t
 |const v=>cases v<;>first|exact QN hS (.const _)|rfl
 |global _=>exact QN hS (.global _)
 |func _=>exact QN hS (.func _)
theorem Qdx (hS:Q1s w g s a){o:Oper}{x:Operand}(ho:o.op=.move x∨o.op=.assign x):Yld P w g s a o false (evk s x):=by
 refine Q5p (v:=a.eval x) (fun W=>?_) (QbB hS x) false
 rcases ho with ho|ho<;>simp only[execOp,ho]<;>rfl
theorem QhN (hS:Q1s w g s a){o:Oper}{c x y:Operand}(ho:o.op=.pick c x y){t:Bool}(hc:ev s c=.val (.bool t)) :
  Yld P w g s a o false (match t with|true=>evk s x|false=>evk s y):=by
 have h:=QN hS c
 rw[hc] at h
 have h:=h.valEq
 cases t with
 |true=>exact Q5p (v:=a.eval x) (fun W=>by simp[execOp,ho,h,asBool]) (QbB hS x) false
 |false=>exact Q5p (v:=a.eval y) (fun W=>by simp[execOp,ho,h,asBool]) (QbB hS y) false
theorem Q4g (hS:Q1s w g s a){o:Oper}{x:Operand}(ho:o.op=.nilCheck x){v:Value}(hv:a.eval x=v)(hn:(∃ ad,v=.pointer (some ad))∨∃ f b c,v=.func (.func f) b c):Yld P w g s a o false (ev s x):=by
 refine Q5p (v:=a.eval x) (fun W=>?_) (QN hS x) false
 rw[hv]
 rcases hn with ⟨ad,rfl⟩|⟨f,b,c,rfl⟩<;>simp only[execOp,ho,hv]<;>rfl
theorem Qbk (hS:Q1s w g s a){o:Oper}{x:Operand}(ho:o.op=.nilCheck x){y:AV}(hx:ev s x=.opt y)(hq:Q4Z y∧Q6Y y=false):Yld P w g s a o false (.ref (Qd1 y)):=by
 have hr:=QN hS x
 rw[hx] at hr
 have hp:PRel w g.A (a.eval x) y:=(PRel.ofOpt (show PRel w g.A _ (.opt _) from hr)).1
 rcases Qcs hp hq.1 with ⟨h1,_⟩|⟨_,b,o',hv,hrel⟩
 ·rw[h1] at hq;cases hq.2
 ·refine Q5p (v:=a.eval x) (fun W=>?_) hrel.to false
  rw[hv]
  simp only[execOp,ho,hv];rfl
theorem Qdi (hS:Q1s w g s a){o:Oper}{t:Operand}{i:Nat}(ho:o.op=.extract t i){vs:List AV}(ht:ev s t=.tup vs){x:AV}(hx:vs[i]?=some x):Yld P w g s a o false x:=by
 have h:=QN hS t
 rw[ht] at h
 obtain⟨ys,h1,h2,h3⟩:=h
 have hi:i<ys.size:=by rw[h2];exact Qb hx
 refine Q2q (S:=Instr.extract (a.eval t) i) (fun W=>by simp only[execOp,ho]) ⟨ys[i],fun W _=>?_,(h3 i _ x (Array.getElem?_eq_getElem hi) hx).to⟩
 rw[h1]
 simp[Instr.extract,hi]
theorem Q5B {o:Oper}{b:Builtin}{args:Array Operand}{r:Array TypeId}(ho:o.op=.call { callee:=.builtin b,args:=args,argTypes:=r })(W:World) :
  ∃ cs,(execOp a.eval o).run P W=(builtin b r o.type cs (args.map a.eval)).run P W:=by
 refine⟨args.map fun|.const _=>true|_=>false,?_⟩
 simp only[execOp,ho,resolve,Sem.run_bind,Sem.run_pure,Result.andThen_ok,invoke]
 rfl
theorem Qhb (hT:TyOk P ty)(hS:Q1s w g s a){o:Oper}{T:Nat}{x i:Operand}(ho:o.op=.index T x i){b:ByteArray}{k:IntKind}{n:Int}(hx:ev s x=.val (.string b))(hi:ev s i=.val (.int k n))
  (hk:(Q4 T ty).kd=6) (h0:0≤n) (h1:n<b.size):Yld P w g s a o false (.val (.int .u8 (std.idxS b n))):=by
 have hu:=(Q5l hT hk (by decide)).str hk
 have h2:=QN hS x
 have h3:=QN hS i
 rw[hx] at h2
 rw[hi] at h3
 have hlt:n.toNat<b.size:=by omega
 refine Q2q (S:=Instr.index T (a.eval x) (a.eval i)) (fun W=>by simp only[execOp,ho]) ⟨.int .u8 (b[n.toNat]).toNat,fun W _=>?_,?_⟩
 ·rw[h2.valEq,h3.valEq]
  simp[Instr.index,asIntOf,run_underlying hu,h0,hlt]
 ·have e:std.idxS b n=((b[n.toNat]).toNat:Int):=by
   show ((b.data.getD n.toNat 0).toNat:Int)=_
   rw[Array.getD_eq_getD_getElem?,Array.getElem?_eq_getElem (by simpa using hlt)]
   rfl
  rw[e]
  exact .val _ rfl
theorem Q5Z {o:Oper}{b:Builtin}{args:Array Operand}{r:Array TypeId}(ho:o.op=.call { callee:=.builtin b,args:=args,argTypes:=r }){F:Array TypeId→TypeId→Array Value→Sem Value}
  (hF:∀ cs vs,builtin b r o.type cs vs=(do pure (Next.value (←F r o.type vs)))) {rd:Bool} {x:AV}
  (h:∃ v,(∀ W,(rd=true→LeB w W)→(F r o.type (args.map a.eval)).run P W=.ok v W)∧ARel w g s.ob v x):Yld P w g s a o rd x:=by
 obtain⟨v,h1,h2⟩:=h
 refine⟨v,fun W hW=>?_,h2⟩
 obtain⟨cs,hc⟩:=Q5B (P:=P) (a:=a) ho W
 rw[hc,hF,QeQ (h1 W hW)]
theorem Ql8 (hT:TyOk P ty)(hS:Q1s w g s a)(M:Mem w g s.ob){o:Oper}{args:Array Operand}{r:Array TypeId}(ho:o.op=.call { callee:=.builtin .len,args:=args,argTypes:=r }){q:Option DP}{y:AV}
  (h:Q2E std ty s o.op=some (q,y)):Yld P w g s a o false y:=by
 rw[ho] at h
 simp only[Q2E] at h
 refine Q5Z (F:=Builtin.len_) ho (fun _ _=>rfl) ?_
 split at h
 ·rename_i x T rest hargs hr
  have hargs':args=#[x]:=by
   apply Array.ext';simpa using hargs
  have hr':r[0]?=some T:=by
   rw[←Array.getElem?_toList,hr];rfl
  subst hargs'
  have hv:=QN hS x
  have hm:(#[x]:Array Operand).map a.eval=#[a.eval x]:=by simp
  rw[hm]
  split at h
  ·rename_i b hb
   split at h
   ·rename_i hk
    simp only[Option.some.injEq,Prod.mk.injEq] at h
    obtain⟨rfl,rfl⟩:=h
    rw[hb] at hv
    have hu:=(Q5l hT hk (by decide)).str hk
    refine⟨_,fun W _=>?_,.val _ rfl⟩
    rw[hv.valEq]
    simp[Builtin.len_,hr',run_underlying hu,goInt,std]
   ·cases h
  ·rename_i hb
   split at h
   ·rename_i hk
    simp only[Option.some.injEq,Prod.mk.injEq] at h
    obtain⟨rfl,rfl⟩:=h
    rw[hb] at hv
    have hu:=(Q9L hT hk).slice hk
    refine⟨_,fun W _=>?_,.val _ rfl⟩
    rw[hv.valEq]
    simp[Builtin.len_,hr',run_underlying hu,goInt]
   ·cases h
  ·split at h
   ·rename_i sz xs he
    split at h
    ·rename_i hk
     simp only[Option.some.injEq,Prod.mk.injEq] at h
     obtain⟨rfl,rfl⟩:=h
     obtain⟨A,c,ys,h1,_,_⟩:=Q4k M hv he
     have hu:=(Q9L hT hk).slice hk
     refine⟨_,fun W _=>?_,.val _ rfl⟩
     rw[h1]
     simp[Builtin.len_,hr',run_underlying hu,goInt,std]
    ·cases h
   ·cases h
 ·cases h
theorem Ql0 (hS:Q1s w g s a){o:Oper}{args:Array Operand}{r:Array TypeId}(ho:o.op=.call { callee:=.builtin .min,args:=args,argTypes:=r }){q:Option DP}{y:AV}
  (h:Q2E std ty s o.op=some (q,y)):Yld P w g s a o false y:=by
 rw[ho] at h
 simp only[Q2E] at h
 refine Q5Z (F:=Builtin.min_) ho (fun _ _=>rfl) ?_
 split at h
 ·rename_i k n k' m he
  simp only[Option.some.injEq,Prod.mk.injEq] at h
  obtain⟨rfl,rfl⟩:=h
  obtain⟨x,y,rfl⟩:∃ x y,args=#[x,y]:=by
   have:=congrArg List.length he
   simp at this
   match args,this with
   |⟨[x,y]⟩,_=>exact⟨x,y,rfl⟩
  simp only[List.map_cons,List.map_nil,List.cons.injEq,and_true] at he
  have h1:=QN hS x
  have h2:=QN hS y
  rw[he.1] at h1
  rw[he.2] at h2
  refine⟨_,fun W _=>?_,.val _ rfl⟩
  simp[Builtin.min_,h1.valEq,h2.valEq,Builtin.min2,std]
 ·cases h
theorem QjY (hS:Q1s w g s a){o:Oper}{args:Array Operand}{r:Array TypeId}(ho:o.op=.call { callee:=.builtin .max,args:=args,argTypes:=r }){q:Option DP}{y:AV}
  (h:Q2E std ty s o.op=some (q,y)):Yld P w g s a o false y:=by
 rw[ho] at h
 simp only[Q2E] at h
 refine Q5Z (F:=Builtin.max_) ho (fun _ _=>rfl) ?_
 split at h
 ·rename_i k n k' m he
  simp only[Option.some.injEq,Prod.mk.injEq] at h
  obtain⟨rfl,rfl⟩:=h
  obtain⟨x,y,rfl⟩:∃ x y,args=#[x,y]:=by
   have:=congrArg List.length he
   simp at this
   match args,this with
   |⟨[x,y]⟩,_=>exact⟨x,y,rfl⟩
  simp only[List.map_cons,List.map_nil,List.cons.injEq,and_true] at he
  have h1:=QN hS x
  have h2:=QN hS y
  rw[he.1] at h1
  rw[he.2] at h2
  refine⟨_,fun W _=>?_,.val _ rfl⟩
  simp[Builtin.max_,h1.valEq,h2.valEq,Builtin.max2,std]
 ·cases h
end
end Go.Proofs.YthbjpdijafccjaaGreat
namespace Go.Proofs.YthbjpdijafccjaaGreat
open Go.RowKit Go.Lib
theorem Q3Q (k:IntKind)(n:Int)(h:k.min≤n∧n≤k.max):k.wrap n=n:=by
 cases k<;>simp[IntKind.wrap,IntKind.min,IntKind.max,IntKind.signed,IntKind.bits] at h ⊢<;>omega
section
variable {P:Program} {ty:Tys} {w:World} {g:Gh} {s:St} {a:Act}
theorem Qe4 {op:BinOp}{t:TypeId}{x y:Operand}{u v:Value}(W:World)(h1:u≠.nilIface)(h2:∀ cs,u≠.agg cs):(eqGuard op t x y u v).run P W=.ok () W:=by
 unfold eqGuard
 cases u<;>first|exact absurd rfl h1|exact absurd rfl (h2 _)|(cases op<;>rfl)
theorem Q1E {o:Oper}{op:BinOp}{T T':Nat}{x y:Operand}(ho:o.op=.binOp op T x y T'){u v r:Value}{rd:Bool}(hx:a.eval x=u)(hy:a.eval y=v)
  (h1:u≠.nilIface) (h2:∀ cs,u≠.agg cs) (hr:∀ W,(binOp op T u v).run P W=.ok r W) (hr1:r.oneCell'=true):Yld P w g s a o rd (.val r):=by
 refine Q2q (S:=do eqGuard op T x y (a.eval x) (a.eval y);binOp op T (a.eval x) (a.eval y)) (fun W=>by simp only[execOp,ho]) ⟨r,fun W _=>?_,.val _ hr1⟩
 rw[Sem.run_bind,hx,hy,Qe4 W h1 h2]
 exact hr W
theorem Qdv {op:BinOp}{T:Nat}{k:IntKind}{m n:Int}{q:Option DP}{v:Value}(h:Qlv std op k m n=some (q,v))(hq:∀ r,q=some r→r)(W:World) :
  (binOp op T (.int k m) (.int k n)).run P W=.ok v W∧v.oneCell'=true:=by
 cases op<;>simp only[Qlv,Option.some.injEq,Prod.mk.injEq] at h<;>try (cases h;done)
 all_goals obtain⟨rfl,rfl⟩:=h
 case add =>
  have h1:k.wrap (m+n)=m+n:=Q3Q k _ (hq _ rfl)
  exact⟨by simp[binOp,Op.intArith,std,h1],rfl⟩
 case sub =>
  have h1:k.wrap (m-n)=m-n:=Q3Q k _ (hq _ rfl)
  exact⟨by simp[binOp,Op.intArith,std,h1],rfl⟩
 case mul =>
  have h1:k.wrap (m * n)=m * n:=Q3Q k _ (hq _ rfl)
  exact⟨by simp[binOp,Op.intArith,std,h1],rfl⟩
 case quo =>
  obtain⟨h0,h1,_⟩:=hq _ rfl
  have h0:n≠0:=h0
  have h1:k.wrap (m.tdiv n)=m.tdiv n:=Q3Q k _ h1
  exact⟨by simp[binOp,Op.intDiv,std,h0,h1],rfl⟩
 case rem =>
  obtain⟨h0,h1,_⟩:=hq _ rfl
  have h0:n≠0:=h0
  have h1:k.wrap (m.tmod n)=m.tmod n:=Q3Q k _ h1
  exact⟨by simp[binOp,Op.intDiv,std,h0,h1],rfl⟩
 case and=>exact⟨by simp[binOp,Op.intBits,std,Q5Q],rfl⟩
 case or=>exact⟨by simp[binOp,Op.intBits,std,Q5Q],rfl⟩
 case xor=>exact⟨by simp[binOp,Op.intBits,std,Q5Q],rfl⟩
 case andNot=>exact⟨by simp[binOp,Op.intBits,std,Q5Q],rfl⟩
 all_goals exact⟨by simp[binOp,Op.intCmp,std,bne],rfl⟩
theorem Q31 {T:Nat}(hT:TyOk P ty)(hk:(Q4 T ty).kd=2)(A:Option Addr)(n c n' c':Nat)(W:World) :
  (binOp .eql T (.slice A n c) (.slice none n' c')).run P W=.ok (.bool A.isNone) W∧(binOp .neq T (.slice A n c) (.slice none n' c')).run P W=.ok (.bool !A.isNone) W:=by
 have hu:=(Q5l hT hk (by decide)).slk hk
 have h:(Op.equal T (.slice A n c) (.slice none n' c')).run P W=.ok A.isNone W:=by
  unfold Op.equal Op.maxDepth
  rw[Op.equalIn]
  cases A<;>simp[run_underlying hu]
 constructor
 ·simp only[binOp];simp[h]
 ·simp only[binOp];simp[h]
theorem Q2M {T:Nat}(hT:TyOk P ty)(hk:(Q4 T ty).kd=4)(A:Option Addr)(W:World) :
  (binOp .eql T (.pointer A) (.pointer none)).run P W=.ok (.bool A.isNone) W∧(binOp .neq T (.pointer A) (.pointer none)).run P W=.ok (.bool !A.isNone) W:=by
 obtain⟨e,hu⟩:=(Q5l hT hk (by decide)).ptr hk
 have h:(Op.equal T (.pointer A) (.pointer none)).run P W=.ok A.isNone W:=by
  unfold Op.equal Op.maxDepth
  rw[Op.equalIn]
  cases A<;>simp[run_underlying hu]
 constructor
 ·simp only[binOp];simp[h]
 ·simp only[binOp];simp[h]
theorem Qgy (hT:TyOk P ty)(hS:Q1s w g s a)(M:Mem w g s.ob){o:Oper}{op:BinOp}{T T':Nat}{x y:Operand}(ho:o.op=.binOp op T x y T'){q:Option DP}{z:AV}
  (h:Q2E std ty s o.op=some (q,z)) (hq:∀ r,q=some r→r):Yld P w g s a o false z:=by
 rw[ho] at h
 simp only[Q2E] at h
 have hx:=QN hS x
 have hy:=QN hS y
 generalize hX:ev s x=X at h hx
 generalize hY:ev s y=Y at h hy
 unfold Qmi at h
 split at h
 ·-- integers
  rename_i k m k' n
  split at h
  ·simp only[Option.some.injEq,Prod.mk.injEq] at h
   obtain⟨rfl,rfl⟩:=h
   have h0:¬ n<0:=Int.not_lt.2 (hq _ rfl)
   exact Q1E ho hx.valEq hy.valEq (by simp) (by simp) (fun W=>by simp[binOp,Op.shift,std,Qgu,h0]) rfl
  ·simp only[Option.some.injEq,Prod.mk.injEq] at h
   obtain⟨rfl,rfl⟩:=h
   have h0:¬ n<0:=Int.not_lt.2 (hq _ rfl)
   have h1:(if n<(k.bits:Int) then n else (k.bits:Int)).toNat=min n.toNat k.bits:=by split<;>omega
   exact Q1E ho hx.valEq hy.valEq (by simp) (by simp) (fun W=>by simp[binOp,Op.shift,std,QmU,h0,h1]) rfl
  split at h
  ·rename_i hk
   subst hk
   obtain⟨⟨q',v⟩,h1,h2⟩:=Option.map_eq_some_iff.1 h
   simp only[Prod.mk.injEq] at h2
   obtain⟨rfl,rfl⟩:=h2
   exact Q1E ho hx.valEq hy.valEq (by simp) (by simp) (fun W=>(Qdv h1 hq W).1) (Qdv (P:=P) (T:=T) h1 hq w).2
  ·cases h
 ·-- texts
  rename_i b c
  cases op<;>simp only at h<;>try (cases h;done)
  all_goals
   simp only[Option.some.injEq,Prod.mk.injEq] at h
   obtain⟨rfl,rfl⟩:=h
  case add =>
   have hc:((b.size+c.size:Nat):Int)≤IntKind.i64.max:=hq _ rfl
   have hc':((b.size+c.size:Nat):Int)≤9223372036854775807:=hc
   have hc2:(b.size:Int)+c.size≤9223372036854775807:=by omega
   exact Q1E ho hx.valEq hy.valEq (by simp) (by simp) (fun W=>by simp[binOp,Op.stringOp,std,hc2]) rfl
  all_goals exact Q1E ho hx.valEq hy.valEq (by simp) (by simp) (fun W=>by simp[binOp,Op.stringOp,std]) rfl
 ·-- bools
  rename_i b c
  split at h
  ·rename_i hk
   have hu:=(Q5l hT hk (by decide)).bool hk
   cases op<;>simp only at h<;>try (cases h;done)
   all_goals
    simp only[Option.some.injEq,Prod.mk.injEq] at h
    obtain⟨rfl,rfl⟩:=h
   ·exact Q1E ho hx.valEq hy.valEq (by simp) (by simp) (fun W=>run_eql_bool W T b c hu) rfl
   ·exact Q1E ho hx.valEq hy.valEq (by simp) (by simp) (fun W=>run_neq_bool W T b c hu) rfl
  ·cases h
 ·-- nil slices
  split at h
  ·rename_i hk
   cases op<;>simp only at h<;>try (cases h;done)
   all_goals
    simp only[Option.some.injEq,Prod.mk.injEq] at h
    obtain⟨rfl,rfl⟩:=h
   ·exact Q1E ho hx.valEq hy.valEq (by simp) (by simp) (fun W=>(Q31 hT hk _ _ _ _ _ W).1) rfl
   ·exact Q1E ho hx.valEq hy.valEq (by simp) (by simp) (fun W=>(Q31 hT hk _ _ _ _ _ W).2) rfl
  ·cases h
 ·split at h
  ·rename_i hk
   cases op<;>simp only at h<;>try (cases h;done)
   all_goals
    simp only[Option.some.injEq,Prod.mk.injEq] at h
    obtain⟨rfl,rfl⟩:=h
   ·exact Q1E ho hx.valEq hy.valEq (by simp) (by simp) (fun W=>(Q2M hT hk none W).1) rfl
   ·exact Q1E ho hx.valEq hy.valEq (by simp) (by simp) (fun W=>(Q2M hT hk none W).2) rfl
  ·cases h
 ·-- an address that is there
  obtain⟨b,u,hv⟩:=Q5i hx (.inl ⟨_,rfl⟩)
  split at h
  ·rename_i hk
   cases op<;>simp only at h<;>try (cases h;done)
   all_goals
    simp only[Option.some.injEq,Prod.mk.injEq] at h
    obtain⟨rfl,rfl⟩:=h
   ·exact Q1E ho hv hy.valEq (by simp) (by simp) (fun W=>(Q2M hT hk _ W).1) rfl
   ·exact Q1E ho hv hy.valEq (by simp) (by simp) (fun W=>(Q2M hT hk _ W).2) rfl
  ·cases h
 ·obtain⟨b,u,hv⟩:=Q5i hx (.inr ⟨_,_,rfl⟩)
  split at h
  ·rename_i hk
   cases op<;>simp only at h<;>try (cases h;done)
   all_goals
    simp only[Option.some.injEq,Prod.mk.injEq] at h
    obtain⟨rfl,rfl⟩:=h
   ·exact Q1E ho hv hy.valEq (by simp) (by simp) (fun W=>(Q2M hT hk _ W).1) rfl
   ·exact Q1E ho hv hy.valEq (by simp) (by simp) (fun W=>(Q2M hT hk _ W).2) rfl
  ·cases h
 ·-- a pointer by content
  rename_i y0
  obtain⟨hp,hpt⟩:PRel w g.A _ _∧Q4Z _:=PRel.ofOpt (show PRel w g.A _ (.opt _) from hx)
  have key:∃ A,a.eval x=.pointer A∧A.isNone=Q6Y y0:=by
   rcases Qcs hp hpt with ⟨h1,h2⟩|⟨h1,b,o,h2,_⟩
   ·exact⟨none,h2,h1.symm⟩
   ·exact⟨_,h2,h1.symm⟩
  obtain⟨A,hv,hA⟩:=key
  split at h
  ·rename_i hk
   cases op<;>simp only at h<;>try (cases h;done)
   all_goals
    simp only[Option.some.injEq,Prod.mk.injEq] at h
    obtain⟨rfl,rfl⟩:=h
   ·exact Q1E ho hv hy.valEq (by simp) (by simp) (fun W=>by rw[(Q2M hT hk A W).1,hA];rfl) rfl
   ·exact Q1E ho hv hy.valEq (by simp) (by simp) (fun W=>by rw[(Q2M hT hk A W).2,hA];rfl) rfl
  ·cases h
 ·-- a slice that is not empty
  split at h
  ·rename_i sz xs he
   split at h
   ·rename_i hk
    obtain⟨A,c,ys,h1,hr,_⟩:=Q4k M hx he
    have hne:xs≠[]→A.isNone=false:=fun hn=>by
     have:0<xs.length:=List.length_pos_iff.2 hn
     cases A with
     |none=>have:=hr.nil rfl;have:=hr.le;omega
     |some _=>rfl
    cases op<;>simp only at h<;>try (cases h;done)
    all_goals
     simp only[Option.some.injEq,Prod.mk.injEq] at h
     obtain⟨rfl,rfl⟩:=h
    ·exact Q1E ho h1 hy.valEq (by simp) (by simp) (fun W=>by rw[(Q31 hT hk A _ _ _ _ W).1,hne (hq _ rfl)]) rfl
    ·exact Q1E ho h1 hy.valEq (by simp) (by simp) (fun W=>by rw[(Q31 hT hk A _ _ _ _ W).2,hne (hq _ rfl)];rfl) rfl
   ·cases h
  ·cases h
 ·cases h
end
end Go.Proofs.YthbjpdijafccjaaGreat
namespace Go.Proofs.YthbjpdijafccjaaGreat
open Go.RowKit Go.Lib
section
variable {P:Program} {ty:Tys} {w:World} {g:Gh} {s:St} {a:Act}
theorem QhE (hS:Q1s w g s a){o:Oper}{op:UnOp}{T:Nat}{x:Operand}(ho:o.op=.unOp op T x){q:Option DP}{z:AV}
  (h:Q2E std ty s o.op=some (q,z)) (hq:∀ r,q=some r→r):Yld P w g s a o false z:=by
 rw[ho] at h
 simp only[Q2E] at h
 have hx:=QN hS x
 refine Q2q (S:=Op.unary op (a.eval x)) (fun W=>by simp only[execOp,ho]) ?_
 split at h
 ·rename_i b hb
  rw[hb] at hx
  simp only[Option.some.injEq,Prod.mk.injEq] at h
  obtain⟨rfl,rfl⟩:=h
  exact⟨_,fun W _=>by rw[hx.valEq];rfl,.val _ rfl⟩
 ·rename_i k n hb
  rw[hb] at hx
  simp only[Option.some.injEq,Prod.mk.injEq] at h
  obtain⟨rfl,rfl⟩:=h
  have h1:k.wrap (0-n)=0-n:=Q3Q k _ (hq _ rfl)
  exact⟨.int k (0-n),fun W _=>by rw[hx.valEq];simp only[Op.unary,Op.intArith,h1];rfl,.val _ rfl⟩
 ·cases h
theorem Q9a {xs:List AV}(h:std.isB xs):QL xs=xs:=by
 have h:∀ x∈xs,∃ n:UInt8,x=.val (.int .u8 n.toNat):=h
 induction xs with
 |nil=>rfl
 |cons x r ih =>
  obtain⟨n,rfl⟩:=h x List.mem_cons_self
  rw[QL,List.flatMap_cons]
  have:=ih (fun x hx=>h x (List.mem_cons_of_mem _ hx)) (fun x hx=>h x (List.mem_cons_of_mem _ hx))
  rw[QL] at this
  rw[this]
  rfl
theorem QgF {A:Nat→Nat→Prop}{ys:List Value}{xs:List AV}(hb:std.isB xs)(hal:Alike w A ys xs):ys=bc (xs.map Q2S):=by
 have hb:∀ x∈xs,∃ n:UInt8,x=.val (.int .u8 n.toNat):=hb
 refine List.ext_getElem? fun j=>?_
 by_cases hj:j<xs.length
 ·obtain⟨n,hn⟩:=hb _ (List.getElem_mem hj)
  have h1:j<ys.length:=by rw[hal.1];exact hj
  have h2:=hal.2 j _ _ (List.getElem?_eq_getElem h1) (List.getElem?_eq_getElem hj)
  rw[hn] at h2
  have h3:ys[j]=.int .u8 n.toNat:=by
   generalize ys[j]=y at h2
   cases h2;rfl
  rw[bc,List.getElem?_map,List.getElem?_map,List.getElem?_eq_getElem hj,hn,List.getElem?_eq_getElem h1,h3]
  simp only[Option.map_some,Q2S,Int.toNat_natCast,UInt8.ofNat_toNat]
 ·rw[List.getElem?_eq_none (by rw[hal.1];omega),List.getElem?_eq_none (by simp[bc];omega)]
theorem Qjy {xs:List AV}(h:std.isR xs):QL xs=xs:=by
 have h:∀ x∈xs,∃ n:Int,x=.val (.int .i32 n):=h
 induction xs with
 |nil=>rfl
 |cons x r ih =>
  obtain⟨n,rfl⟩:=h x List.mem_cons_self
  rw[QL,List.flatMap_cons]
  have:=ih (fun x hx=>h x (List.mem_cons_of_mem _ hx)) (fun x hx=>h x (List.mem_cons_of_mem _ hx))
  rw[QL] at this
  rw[this]
  rfl
theorem Qg3 {A:Nat→Nat→Prop}{ys:List Value}{xs:List AV}(hb:std.isR xs)(hal:Alike w A ys xs):ys=(xs.map intOf).map (Value.int .i32):=by
 have hb:∀ x∈xs,∃ n:Int,x=.val (.int .i32 n):=hb
 refine List.ext_getElem? fun j=>?_
 by_cases hj:j<xs.length
 ·obtain⟨n,hn⟩:=hb _ (List.getElem_mem hj)
  have h1:j<ys.length:=by rw[hal.1];exact hj
  have h2:=hal.2 j _ _ (List.getElem?_eq_getElem h1) (List.getElem?_eq_getElem hj)
  rw[hn] at h2
  have h3:ys[j]=.int .i32 n:=by
   generalize ys[j]=y at h2
   cases h2;rfl
  rw[List.getElem?_map,List.getElem?_map,List.getElem?_eq_getElem hj,hn,List.getElem?_eq_getElem h1,h3]
  rfl
 ·rw[List.getElem?_eq_none (by rw[hal.1];omega),List.getElem?_eq_none (by simp;omega)]
theorem Q7z {w:World}{S:Nat→Prop}{A:Option Addr}{n c:Nat}{l:List Int}(h:Rd w S 1 A n c (l.map (Value.int .i32)))(src dst e:TypeId)
  (hs:P.underlying src=some (.slice e)) (he:P.underlying e=some (.int .i32)) (hd:P.underlying dst=some .string) :
  (convert src dst (.slice A n c)).run P w=.ok (.string (runesBytes l)) w:=by
 have hl:n=l.length:=by have:=h.len;simpa using this.symm
 subst hl
 rcases A with _|ad
 ·have:=h.nil rfl
  have:=h.le
  have:l=[]:=List.eq_nil_of_length_eq_zero (by omega)
  subst this
  exact run_convert_runes_nil w src dst e _ _ hs he hd
 ·have:=run_convert_runes w src dst e ad l.length c l (Nat.le_refl _) hs he hd fun j hj=>by
   obtain⟨b,o,ha,_,hc⟩:=h.at_ (by omega)
   injection ha with ha
   subst ha
   rw[Addr.add_lit]
   exact hc j _ (by simp[hj])
  rw[List.take_length] at this
  exact this
theorem QcD (hT:TyOk P ty)(hS:Q1s w g s a)(M:Mem w g s.ob){o:Oper}{src dst:Nat}{x:Operand}(ho:o.op=.convert src dst x){q:Option DP}{z:AV}
  (h:Q2E std ty s o.op=some (q,z)) (hq:∀ r,q=some r→r):Yld P w g s a o true z:=by
 rw[ho] at h
 simp only[Q2E] at h
 have hx:=QN hS x
 refine Q2q (S:=convert src dst (a.eval x)) (fun W=>by simp only[execOp,ho]) ?_
 split at h
 ·rename_i hok
  obtain⟨d,hd,_⟩:=(Q32 hT hok).u
  split at h
  ·rename_i k n hb
   rw[hb] at hx
   split at h
   ·rename_i k' hk
    have hu:=(Q7x hT hk).int hk
    simp only[Option.some.injEq,Prod.mk.injEq] at h
    obtain⟨rfl,rfl⟩:=h
    refine⟨.int k' (k'.wrap n),fun W _=>?_,.val _ rfl⟩
    rw[hx.valEq]
    simp[convert,run_underlying hd,run_underlying hu,Conv.intToInt]
   ·split at h
    ·rename_i hk
     have hu:=(Q5l hT hk (by decide)).str hk
     simp only[Option.some.injEq,Prod.mk.injEq] at h
     obtain⟨rfl,rfl⟩:=h
     refine⟨.string (Utf8.encode n),fun W _=>?_,.val _ rfl⟩
     rw[hx.valEq]
     simp[convert,run_underlying hd,run_underlying hu,Conv.intToString]
    ·cases h
  ·rename_i b hb
   rw[hb] at hx
   split at h
   ·rename_i hk
    have hu:=(Q5l hT hk (by decide)).str hk
    simp only[Option.some.injEq,Prod.mk.injEq] at h
    obtain⟨rfl,rfl⟩:=h
    refine⟨.string b,fun W _=>?_,.val _ rfl⟩
    rw[hx.valEq]
    simp[convert,run_underlying hd,run_underlying hu]
   ·cases h
  ·split at h
   ·rename_i xs he
    split at h
    ·rename_i hk
     obtain⟨hk1,hk2⟩:=hk
     have hu:=(Q5l hT hk1 (by decide)).str hk1
     have hs:=(Q9L hT hk2).slice hk2
     split at h
     ·rename_i hk3
      have hee:=(Q7x hT hk3).int hk3
      simp only[Option.some.injEq,Prod.mk.injEq] at h
      obtain⟨rfl,rfl⟩:=h
      have hb:std.isB xs:=hq _ rfl
      obtain⟨A,c,ys,h1,hr,hal⟩:=Q4k M hx he
      rw[Q9a hb] at hal
      have hys:=QgF hb hal
      subst hys
      refine⟨.string ⟨(xs.map Q2S).toArray⟩,fun W hW=>?_,.val _ rfl⟩
      rw[h1]
      exact Q2Z (hr.below (hW rfl)) src dst _ hs hee hu
     ·rename_i hk3
      have hee:=(Q7x hT hk3).int hk3
      simp only[Option.some.injEq,Prod.mk.injEq] at h
      obtain⟨rfl,rfl⟩:=h
      have hb:std.isR xs:=hq _ rfl
      obtain⟨A,c,ys,h1,hr,hal⟩:=Q4k M hx he
      rw[Qjy hb] at hal
      have hys:=Qg3 hb hal
      subst hys
      refine⟨.string (runesBytes (xs.map intOf)),fun W hW=>?_,.val _ rfl⟩
      rw[h1]
      exact Q7z (hr.below (hW rfl)) src dst _ hs hee hu
     ·cases h
    ·cases h
   ·cases h
 ·cases h
theorem Qbw {o:Oper}{fn:Fn}(ho:o.op=.makeFunc fn #[] #[]):Yld P w g s a o false (.val (.func fn #[] #[])):=by
 refine Q2q (S:=Instr.makeFunc fn #[] #[]) (fun W=>by simp[execOp,ho]) ⟨_,fun W _=>rfl,.val _ rfl⟩
theorem QcX (hT:TyOk P ty){t off:Nat}(hok:(Q4 t ty).ok=true){vs:Array Value}{cs:List AV}(hc:ARelC w g s.ob vs.toList cs)(hl:off+(if (Q4 t ty).agg then (Q4 t ty).size else 1)≤cs.length) :
  ∃ v,(∀ W,(part t vs off).run P W=.ok v W)∧ARel w g s.ob v (mk ty t (cs.drop off)):=by
 have ti:=Q32 hT hok
 have hlen:vs.size=cs.length:=by simpa using hc.1
 cases ha:(Q4 t ty).agg with
 |true =>
  rw[ha] at hl
  simp only[if_true] at hl
  refine⟨.agg (vs.extract off (off+(Q4 t ty).size)),fun W=>?_,?_⟩
  ·have h1:=ti.isAgg W
   have h2:=ti.size W
   rw[ha] at h1
   simp[part,h1,h2]
  ·rw[mk,ha]
   simp only[if_true]
   refine⟨_,rfl,by simp;omega,fun j y u hy hu=>?_⟩
   rw[List.getElem?_take] at hu
   split at hu
   ·rename_i hj
    rw[List.getElem?_drop] at hu
    refine hc.2 (off+j) y u ?_ hu
    rw[Array.toList_extract,List.getElem?_take,if_pos (by omega),List.getElem?_drop] at hy
    exact hy
   ·cases hu
 |false =>
  rw[ha] at hl
  simp only[Bool.false_eq_true,if_false] at hl
  have hv:off<vs.size:=by omega
  have hc':off<cs.length:=by omega
  refine⟨vs[off],fun W=>?_,?_⟩
  ·have h1:=ti.isAgg W
   rw[ha] at h1
   simp[part,h1,hv]
  ·rw[mk,ha]
   simp only[Bool.false_eq_true,if_false]
   have e:(cs.drop off).headD .dead=cs[off]:=by
    rw[List.headD_eq_head?_getD,List.head?_drop,List.getElem?_eq_getElem hc'];rfl
   rw[e]
   exact (hc.2 off _ _ (by simp[hv]) (List.getElem?_eq_getElem hc')).1.to
theorem Qgm (hT:TyOk P ty)(hS:Q1s w g s a){o:Oper}{T f:Nat}{x:Operand}(ho:o.op=.field T x f){q:Option DP}{z:AV}
  (h:Q2E std ty s o.op=some (q,z)):Yld P w g s a o false z:=by
 rw[ho] at h
 simp only[Q2E] at h
 have hx:=QN hS x
 refine Q2q (S:=Instr.field T (a.eval x) f) (fun W=>by simp only[execOp,ho]) ?_
 split at h
 ·rename_i off t cs hf hb
  rw[hb] at hx
  obtain⟨vs,hv,hc⟩:=hx
  by_cases hl:(Q4 t ty).ok=true∧off+(if (Q4 t ty).agg then (Q4 t ty).size else 1)≤cs.length
  ·rw[if_pos hl] at h
   simp only[Option.some.injEq,Prod.mk.injEq] at h
   obtain⟨rfl,rfl⟩:=h
   obtain⟨fs,fd,h1,h2,h3⟩:=(Qes hT hf).strct' hf
   obtain⟨rfl,rfl⟩:off=fd.offset∧t=fd.type:=by simpa using h3
   obtain⟨v,h4,h5⟩:=QcX hT hl.1 hc hl.2
   refine⟨v,fun W _=>?_,h5⟩
   rw[hv]
   simp[Instr.field,run_underlying h1,h2,asAgg,h4]
  ·rw[if_neg hl] at h;cases h
 ·cases h
theorem QdF (off:Nat):∀ (l:List Value) (k:Nat) (c:Array Value),
  ((l.zipIdx k).foldl (fun cs (x:Value×Nat)=>cs.setIfInBounds (off+x.2) x.1) c).toList=c.toList.take (off+k)++(l.take (c.size-(off+k))++c.toList.drop (off+k+l.length)):=by
 intro l
 induction l with
 |nil=>intro k c;simp
 |cons v r ih =>
  intro k c
  simp only[List.zipIdx_cons,List.foldl_cons]
  rw[ih (k+1) (c.setIfInBounds (off+k) v)]
  by_cases h:off+k<c.size
  ·have h1:c.size-(off+k)=(c.size-(off+(k+1)))+1:=by omega
   simp only[Array.size_setIfInBounds,Array.toList_setIfInBounds]
   rw[h1,List.take_succ_cons,←Nat.add_assoc,List.take_succ_eq_append_getElem (by simpa using h),List.getElem_set_self,List.take_set_of_le (by omega),List.drop_set_of_lt (by omega),List.append_assoc]
   simp only[List.singleton_append,List.length_cons,List.cons_append,List.nil_append]
   rw[show off+k+1+r.length=off+k+(r.length+1) by omega]
  ·simp only[Array.size_setIfInBounds,Array.toList_setIfInBounds]
   have h1:c.size-(off+k)=0:=by omega
   have h2:c.size-(off+(k+1))=0:=by omega
   rw[h1,h2,List.set_eq_of_length_le (by simp;omega)]
   simp only[List.take_zero,List.nil_append,List.length_cons]
   rw[List.take_of_length_le (by simp;omega),List.take_of_length_le (by simp;omega),List.drop_eq_nil_of_le (by simp;omega),List.drop_eq_nil_of_le (by simp;omega)]
theorem Q7S {ob:List Ob}{c:List Value}{cs:List AV}(h:ARelC w g ob c cs){l:List Value}{us:List AV}(h':ARelC w g ob l us){off:Nat}(hl:off+us.length≤cs.length) :
  ARelC w g ob (c.take off++(l++c.drop (off+l.length))) (setCells cs off us):=by
 have e1:=h.1
 have e2:=h'.1
 refine⟨by simp[setCells];omega,fun j y u hy hu=>?_⟩
 unfold setCells at hu
 rw[List.append_assoc] at hu
 by_cases h1:j<off
 ·rw[List.getElem?_append_left (by simp;omega),List.getElem?_take,if_pos h1] at hy hu
  exact h.2 j y u hy hu
 ·rw[List.getElem?_append_right (by simp;omega)] at hy hu
  have e3:(c.take off).length=off:=by rw[List.length_take];omega
  have e4:(cs.take off).length=off:=by rw[List.length_take];omega
  rw[e3] at hy
  rw[e4] at hu
  by_cases h2:j-off<l.length
  ·rw[List.getElem?_append_left h2] at hy
   rw[List.getElem?_append_left (by omega)] at hu
   exact h'.2 _ y u hy hu
  ·rw[List.getElem?_append_right (by omega),List.getElem?_drop] at hy
   rw[List.getElem?_append_right (by omega),List.getElem?_drop,←e2] at hu
   exact h.2 _ y u hy hu
theorem Q9M {ob:List Ob}{flds:List (Nat×Nat)}{place:Nat→Option (Nat×Nat)}(hplace:∀ (i off t:Nat),flds[i]?=some (off,t)→(Q4 t ty).ok=true→place i=some (off,(Q4 t ty).size)) :
  ∀ (parts:List (Nat×Value×AV)) (c:Array Value) (cs cs':List AV),(∀ p∈parts,ARel w g ob p.2.1 p.2.2)→ARelC w g ob c.toList cs→QaZ ty flds cs (parts.map fun p=>(p.1,p.2.2))=some cs' →
   ∃ c',Instr.fill place c (parts.map fun p=>(p.1,p.2.1))=some c'∧ARelC w g ob c'.toList cs'
 | [],c,cs,cs',_,hc,h=>by
  obtain rfl:cs=cs':=by simpa[QaZ] using h
  exact⟨c,rfl,hc⟩
 |(i,v,x)::r,c,cs,cs',hp,hc,h=>by
  simp only[List.map_cons,QaZ] at h
  split at h
  ·rename_i off t hf
   split at h
   ·rename_i hl
    obtain⟨h1,h2,h3,h4⟩:=hl
    have hv:=(hp _ List.mem_cons_self).cells h1
    have hlen:v.cells.size=x.cells.length:=by simpa using hv.1
    have hcl:c.size=cs.length:=by simpa using hc.1
    have hn:=Q7S hc hv h4
    have hfo:=QdF off v.cells.toList 0 c
    have e1:(v.cells.toList.take (c.size-(off+0)))=v.cells.toList:=List.take_of_length_le (by simp;omega)
    rw[e1,Nat.add_zero] at hfo
    rw[←hfo] at hn
    obtain⟨c',h5,h6⟩:=Q9M hplace r _ _ cs' (fun p hm=>hp p (List.mem_cons_of_mem _ hm)) hn h
    refine⟨c',?_,h6⟩
    simp only[List.map_cons,Instr.fill,hplace i off t hf h2]
    rw[if_neg]
    ·rw[←h5]
     congr 1
     rw[←Array.foldl_toList,Array.toList_zipIdx]
    ·simp only[Bool.or_eq_true,decide_eq_true_eq,bne_iff_ne,ne_eq,not_or]
     omega
   ·cases h
  ·cases h
theorem Q9U {ob:List Ob}{zs:List Value}(h:zs.all (·.oneCell')=true):ARelC w g ob zs (zs.map .val):=by
 refine⟨by simp,fun j y u hy hu=>?_⟩
 rw[List.getElem?_map,hy] at hu
 obtain rfl:AV.val y=u:=by simpa using hu
 have h1:=List.all_eq_true.1 h y (List.mem_of_getElem? hy)
 exact⟨PRel.val y h1,h1⟩
theorem QhM (hT:TyOk P ty)(hS:Q1s w g s a){o:Oper}{T:Nat}{x i:Operand}(ho:o.op=.index T x i){cs:List AV}(hx:ev s x=.agg cs){kn:IntKind}{k:Int}(hi:ev s i=.val (.int kn k))
  (h0:100≤(Q4 T ty).kd) (hok:(Q4 (Q4 T ty).elem ty).ok=true) (h1:0≤k) (h2:k<((Q4 T ty).kd-100:Nat))
  (hl:k.toNat * (Q4 (Q4 T ty).elem ty).size+(if (Q4 (Q4 T ty).elem ty).agg then (Q4 (Q4 T ty).elem ty).size else 1)≤cs.length) :
  Yld P w g s a o false (mk ty (Q4 T ty).elem (cs.drop (k.toNat * (Q4 (Q4 T ty).elem ty).size))):=by
 have hxr:=QN hS x
 have hir:=QN hS i
 rw[hx] at hxr
 rw[hi] at hir
 obtain⟨vs,hv,hc⟩:=hxr
 have hu:=(Q5l hT (k:=(Q4 T ty).kd) rfl (by omega)).arr h0
 obtain⟨v,h4,h5⟩:=QcX hT hok hc hl
 refine Q2q (S:=Instr.index T (a.eval x) (a.eval i)) (fun W=>by simp only[execOp,ho]) ⟨v,fun W _=>?_,h5⟩
 rw[hv,hir.valEq]
 have hs:=(Q32 hT hok).size W
 have h6:((Q4 T ty).kd-100:Nat)=(Q4 T ty).kd-100:=rfl
 simp[Instr.index,asIntOf,run_underlying hu,h1,h2,hs,h4]
theorem QgB (hT:TyOk P ty)(hS:Q1s w g s a){o:Oper}{T:Nat}{parts:Array (Nat×Operand)}(ho:o.op=.build T parts){q:Option DP}{z:AV}
  (h:Q2E std ty s o.op=some (q,z)):Yld P w g s a o false z:=by
 rw[ho] at h
 simp only[Q2E] at h
 split at h
 ·rename_i hok
  obtain⟨cs',h1,h2⟩:=Option.map_eq_some_iff.1 h
  simp only[Prod.mk.injEq] at h2
  obtain⟨rfl,rfl⟩:=h2
  have ti:=Q32 hT hok.1
  obtain⟨fs,hu,hfl⟩:=ti.strct hok.2
  obtain⟨i0,z0,hi,hsz,hby,hz,hzc⟩:=ti.i
  have hpl:∃ places,fs.toList.mapM (fun f=>(P.info? f.type).map fun i=>(f.offset,i.size))=some places∧∀ (i off t:Nat),(Q4 T ty).flds[i]?=some (off,t)→(Q4 t ty).ok=true→places[i]?=some (off,(Q4 t ty).size):=by
   have hfi:=ti.fi
   rw[hfl] at hfi ⊢
   clear hfl hu h1
   generalize fs.toList=l at hfi ⊢
   induction l with
   |nil=>exact⟨[],rfl,fun i off t h=>by simp at h⟩
   |cons f r ih =>
    simp only[List.map_cons,List.all_cons,Bool.and_eq_true] at hfi
    obtain⟨places,h3,h4⟩:=ih hfi.2
    obtain⟨fi,hfi'⟩:=Option.isSome_iff_exists.1 hfi.1
    refine⟨(f.offset,fi.size)::places,by simp[h3,hfi'],fun i off t h5 h6=>?_⟩
    cases i with
    |zero =>
     obtain⟨rfl,rfl⟩:f.offset=off∧f.type=t:=by simpa using h5
     obtain⟨i1,_,h7,h8,_⟩:=(Q32 hT h6).i
     rw[hfi'] at h7
     cases h7
     simp[h8]
    |succ i=>simpa using h4 i off t (by simpa using h5) h6
  obtain⟨places,hp1,hp2⟩:=hpl
  have hz0:ARelC w g s.ob z0.cells.toList ((Q4 T ty).zero.map .val):=by rw[hzc];exact Q9U ti.zone
  obtain⟨c',h5,h6⟩:=Q9M (w:=w) (g:=g) (ob:=s.ob) (place:=fun i=>places.toArray[i]?) (fun i off t h3 h4=>by simpa using hp2 i off t h3 h4)
   (parts.toList.map fun p=>(p.1,a.eval p.2,ev s p.2)) z0.cells _ cs' (fun p hm=>by obtain⟨q,_,rfl⟩:=List.mem_map.1 hm;exact QN hS q.2) hz0 (by simpa[List.map_map,Function.comp_def] using h1)
  refine Q2q (S:=Instr.build T (parts.map fun (i,x)=>(i,a.eval x))) (fun W=>by simp only[execOp,ho]) ⟨.agg c',fun W _=>run_build W T _ c' ?_,c',rfl,h6⟩
  unfold Program.built
  rw[hi,hu]
  simp only[hz,hp1]
  rw[←h5]
  congr 1
  simp[List.map_map,Function.comp_def]
 split at h
 ·rename_i _ hok
  obtain⟨cs',h1,h2⟩:=Option.map_eq_some_iff.1 h
  simp only[Prod.mk.injEq] at h2
  obtain⟨rfl,rfl⟩:=h2
  have ti:=Q32 hT hok.1
  have hu:=ti.arr hok.2.1
  obtain⟨i0,z0,hi,hsz,hby,hz,hzc⟩:=ti.i
  have hz0:ARelC w g s.ob z0.cells.toList ((Q4 T ty).zero.map .val):=by rw[hzc];exact Q9U ti.zone
  cases hie:P.info? (Q4 T ty).elem with
  |none =>
   obtain⟨ie,_,hie',_⟩:=(Q32 hT hok.2.2).i
   rw[hie] at hie';cases hie'
  |some ie =>
   obtain⟨c',h5,h6⟩:=Q9M (w:=w) (g:=g) (ob:=s.ob) (ty:=ty) (flds:=(List.range ((Q4 T ty).kd-100)).map fun i=>(i * (Q4 (Q4 T ty).elem ty).size,(Q4 T ty).elem)) (place:=fun i=>some (i * ie.size,ie.size)) (fun i off t h3 h4=>by
     rw[List.getElem?_map,Option.map_eq_some_iff] at h3
     obtain⟨j,h7,h8⟩:=h3
     obtain⟨rfl,rfl⟩:j * (Q4 (Q4 T ty).elem ty).size=off∧(Q4 T ty).elem=t:=by simpa using h8
     obtain⟨i1,_,h9,h10,_⟩:=(Q32 hT h4).i
     rw[hie] at h9;cases h9
     have:j=i:=by
      rw[List.getElem?_range (by have:=Qb h7;simpa using this)] at h7
      simpa using h7.symm
     rw[this,h10])
    (parts.toList.map fun p=>(p.1,a.eval p.2,ev s p.2)) z0.cells _ cs' (fun p hm=>by obtain⟨q,_,rfl⟩:=List.mem_map.1 hm;exact QN hS q.2) hz0 (by simpa[List.map_map,Function.comp_def] using h1)
   refine Q2q (S:=Instr.build T (parts.map fun (i,x)=>(i,a.eval x))) (fun W=>by simp only[execOp,ho]) ⟨.agg c',fun W _=>run_build W T _ c' ?_,c',rfl,h6⟩
   unfold Program.built
   rw[hi,hu]
   simp only[hz,hie]
   rw[←h5]
   congr 1
   simp[List.map_map,Function.comp_def]
 ·cases h
end
end Go.Proofs.YthbjpdijafccjaaGreat
namespace Go.Proofs.YthbjpdijafccjaaGreat
open Go.RowKit Go.Lib
section
variable {P:Program} {ty:Tys} {w:World} {g:Gh} {s:St} {a:Act}
theorem Yld.more {o:Oper}{x:AV}(h:Yld P w g s a o false x)(r:Bool):Yld P w g s a o r x:=by
 obtain⟨v,h1,h2⟩:=h
 exact⟨v,fun W _=>h1 W (fun h=>by cases h),h2⟩
theorem Qbi {T:Nat}(hu:P.underlying T=some .string)(b:ByteArray)(lo hi:Option Value){l h:Nat}
  (hlo:lo=none∧l=0∨∃ k,lo=some (.int k (l:Int))) (hhi:hi=none∧h=b.size∨∃ k,hi=some (.int k (h:Int))) (h1:l≤h) (h2:h≤b.size) (W:World) :
  (Instr.sliceAt T (.string b) lo hi none).run P W=.ok (.string (b.extract l h)) W:=by
 have e1:∀ (k:IntKind),(Instr.sliceBound (.int k (h:Int)) b.size .sliceAlen).run P W=.ok h W:=fun k=>by
  rw[Q6N (by omega) (by omega)];simp
 have e2:∀ (k:IntKind),(Instr.sliceBound (.int k (l:Int)) h .sliceB).run P W=.ok l W:=fun k=>by
  rw[Q6N (by omega) (by omega)];simp
 rcases hlo with ⟨rfl,rfl⟩|⟨k,rfl⟩<;>rcases hhi with ⟨rfl,rfl⟩|⟨k',rfl⟩ <;>
  simp[Instr.sliceAt,Instr.slice,run_underlying hu,Instr.sliceBounds,e1,e2]
theorem Q4h {o:Oper}{T:Nat}{x:Operand}{lo hi:Option Operand}(ho:o.op=.slice T x lo hi none){b:ByteArray}(hu:P.underlying T=some .string)
  (hx:a.eval x=.string b) {l h:Int} (hlo:lo.map a.eval=none∧l=0∨∃ k,lo.map a.eval=some (.int k l)) (hhi:hi.map a.eval=none∧h=b.size∨∃ k,hi.map a.eval=some (.int k h))
  (hok:0≤l∧l≤h∧h≤b.size):Yld P w g s a o false (.val (.string (std.cutS b l h))):=by
 obtain⟨h0,h1,h2⟩:=hok
 obtain⟨l,rfl⟩:∃ l':Nat,l=l':=⟨l.toNat,by omega⟩
 obtain⟨h,rfl⟩:∃ h':Nat,h=h':=⟨h.toNat,by omega⟩
 have hlo':lo.map a.eval=none∧l=0∨∃ k,lo.map a.eval=some (.int k (l:Int)):=hlo.imp (fun⟨a,b⟩=>⟨a,by omega⟩) id
 have hhi':hi.map a.eval=none∧h=b.size∨∃ k,hi.map a.eval=some (.int k (h:Int)):=hhi.imp (fun⟨a,b⟩=>⟨a,by omega⟩) id
 refine Q2q (S:=Instr.sliceAt T (a.eval x) (lo.map a.eval) (hi.map a.eval) none) (fun W=>by simp only[execOp,ho];rfl) ⟨_,fun W _=>?_,.val _ rfl⟩
 rw[hx,Qbi hu b _ _ hlo' hhi' (by omega) (by omega)]
 simp[std]
theorem Q8A (hS:Q1s w g s a){lo:Option Operand}{k:IntKind}{l:Int}(h:lo.map (ev s)=some (.val (.int k l))):lo.map a.eval=some (.int k l):=by
 cases lo with
 |none=>cases h
 |some x =>
  have h:ev s x=.val (.int k l):=by simpa using h
  have hx:=QN hS x
  rw[h] at hx
  simp[hx.valEq]
theorem Q8t {lo:Option Operand}(h:lo.map (ev s)=none):lo.map a.eval=none:=by
 cases lo with
 |none=>rfl
 |some x=>cases h
theorem QgO (hT:TyOk P ty)(hS:Q1s w g s a)(M:Mem w g s.ob){o:Oper}{T:Nat}{x:Operand}{lo hi:Option Operand}(ho:o.op=.slice T x lo hi none){q:Option DP}{z:AV}
  (h:Q2E std ty s o.op=some (q,z)) (hq:∀ r,q=some r→r):Yld P w g s a o false z:=by
 have ho':=ho
 rw[ho] at h
 simp only[Q2E] at h
 have hx:=QN hS x
 split at h
 ·rename_i b hb
  rw[hb] at hx
  split at h
  ·rename_i hk
   have hu:=(Q5l hT hk (by decide)).str hk
   split at h<;>try (cases h;done)
   ·rename_i h1 h2
    simp only[Option.some.injEq,Prod.mk.injEq] at h
    obtain⟨rfl,rfl⟩:=h
    have:=Q4h (w:=w) (g:=g) (s:=s) (l:=0) (h:=b.size) ho' hu hx.valEq (.inl ⟨Q8t h1,rfl⟩) (.inl ⟨Q8t h2,rfl⟩) ⟨by omega,by omega,by omega⟩
    have e:std.cutS b 0 b.size=b:=by simp[std]
    rw[e] at this
    exact this
   ·rename_i h1 h2
    simp only[Option.some.injEq,Prod.mk.injEq] at h
    obtain⟨rfl,rfl⟩:=h
    exact Q4h ho' hu hx.valEq (.inr ⟨_,Q8A hS h1⟩) (.inl ⟨Q8t h2,rfl⟩) (hq _ rfl)
   ·rename_i h1 h2
    simp only[Option.some.injEq,Prod.mk.injEq] at h
    obtain⟨rfl,rfl⟩:=h
    exact Q4h ho' hu hx.valEq (.inl ⟨Q8t h1,rfl⟩) (.inr ⟨_,Q8A hS h2⟩) (hq _ rfl)
   ·rename_i h1 h2
    simp only[Option.some.injEq,Prod.mk.injEq] at h
    obtain⟨rfl,rfl⟩:=h
    exact Q4h ho' hu hx.valEq (.inr ⟨_,Q8A hS h1⟩) (.inr ⟨_,Q8A hS h2⟩) (hq _ rfl)
  ·cases h
 ·rename_i sz xs hb
  rw[hb] at hx
  split at h
  ·rename_i hel
   split at h<;>try (cases h;done)
   ·rename_i h1 h2
    simp only[Option.some.injEq,Prod.mk.injEq] at h
    obtain⟨rfl,rfl⟩:=h
    have:=Q3U (l:=0) (h:=xs.length) hT ho' hel hx (.inl ⟨Q8t h1,rfl⟩) (.inl ⟨Q8t h2,rfl⟩) ⟨by omega,by omega,by omega⟩
    have e:std.cut xs 0 xs.length=xs:=by simp[std]
    rw[e] at this
    exact this
   ·rename_i h1 h2
    simp only[Option.some.injEq,Prod.mk.injEq] at h
    obtain⟨rfl,rfl⟩:=h
    exact Q3U hT ho' hel hx (.inr ⟨_,Q8A hS h1⟩) (.inl ⟨Q8t h2,rfl⟩) (hq _ rfl)
   ·rename_i h1 h2
    simp only[Option.some.injEq,Prod.mk.injEq] at h
    obtain⟨rfl,rfl⟩:=h
    exact Q3U hT ho' hel hx (.inl ⟨Q8t h1,rfl⟩) (.inr ⟨_,Q8A hS h2⟩) (hq _ rfl)
   ·rename_i h1 h2
    simp only[Option.some.injEq,Prod.mk.injEq] at h
    obtain⟨rfl,rfl⟩:=h
    exact Q3U hT ho' hel hx (.inr ⟨_,Q8A hS h1⟩) (.inr ⟨_,Q8A hS h2⟩) (hq _ rfl)
  ·cases h
 ·rename_i id ep hb
  rw[hb] at hx
  obtain⟨_,et,sz,fz,e,xs,h1,h2,h3⟩:=hx
  simp only[h1] at h
  split at h
  ·rename_i hel
   split at h<;>try (cases h;done)
   rename_i k n h4 h5
   simp only[Option.some.injEq,Prod.mk.injEq] at h
   obtain⟨rfl,rfl⟩:=h
   cases lo with
   |some _=>cases h4
   |none =>
    cases hi with
    |none=>cases h5
    |some y =>
     have hy:ev s y=.val (.int k n):=by simpa using h5
     have hy':=QN hS y
     rw[hy] at hy'
     have hqq:0≤(0:Int)∧0≤n∧n≤(xs.length:Int):=hq _ rfl
     exact Qar hT ho' hel.2 h1 hel.1 (h3 hel.1) hy'.valEq hqq.2
  ·cases h
 ·cases h
theorem Q7j (hT:TyOk P ty)(hS:Q1s w g s a)(M:Mem w g s.ob){o:Oper}{q:Option DP}{z:AV}
  (h:Q2E std ty s o.op=some (q,z)) (hq:∀ r,q=some r→r):Yld P w g s a o (Q82 o.op) z:=by
 cases ho:o.op with
 |move x =>
  rw[ho] at h
  obtain⟨rfl,rfl⟩:none=q∧evk s x=z:=by simpa[Q2E] using h
  exact Qdx hS (.inl ho)
 |assign x =>
  rw[ho] at h
  obtain⟨rfl,rfl⟩:none=q∧evk s x=z:=by simpa[Q2E] using h
  exact Qdx hS (.inr ho)
 |pick c x y =>
  rw[ho] at h
  simp only[Q2E] at h
  split at h
  ·rename_i t hc
   simp only[Option.some.injEq,Prod.mk.injEq] at h
   obtain⟨rfl,rfl⟩:=h
   have:=QhN (P:=P) hS ho hc
   cases t<;>exact this
  ·cases h
 |build T parts=>exact QgB hT hS ho h
 |load T x =>
  rw[ho] at h
  simp only[Q2E] at h
  have hxr:=QN hS x
  split at h
  ·rename_i cs he
   rw[he] at hxr
   exact Qft hT ho (Qgq hxr) h hq
  ·rename_i id ep i off he
   rw[he] at hxr
   split at h
   ·rename_i e xs hob
    split at h
    ·rename_i hee
     exact Qft hT ho (QeJ M hxr hob hee) h hq
    ·cases h
   ·cases h
  split at h
  ·rename_i cs hcs
   by_cases hl:(Q4 T ty).ok=true∧(if (Q4 T ty).agg then (Q4 T ty).size else 1)≤cs.length
   ·rw[if_pos hl] at h
    simp only[Option.some.injEq,Prod.mk.injEq] at h
    obtain⟨rfl,rfl⟩:=h
    exact Qie hT hS M ho hcs hl.1 hl.2
   ·rw[if_neg hl] at h;cases h
  ·cases h
 |nilCheck x =>
  rw[ho] at h
  simp only[Q2E] at h
  have hx:=QN hS x
  split at h
  ·rename_i cs he
   obtain⟨rfl,rfl⟩:none=q∧AV.ref cs=z:=by simpa using h
   rw[he] at hx
   obtain⟨b,u,hv⟩:=Q5i hx (.inl ⟨_,rfl⟩)
   have:=Q4g hS ho hv (.inl ⟨_,rfl⟩) (P:=P)
   rw[he] at this;exact this
  ·rename_i id of he
   obtain⟨rfl,rfl⟩:none=q∧AV.box id of=z:=by simpa using h
   rw[he] at hx
   obtain⟨b,u,hv⟩:=Q5i hx (.inr ⟨_,_,rfl⟩)
   have:=Q4g hS ho hv (.inl ⟨_,rfl⟩) (P:=P)
   rw[he] at this;exact this
  ·rename_i y he
   simp only[Option.some.injEq,Prod.mk.injEq] at h
   obtain⟨rfl,rfl⟩:=h
   exact Qbk hS ho he (hq _ rfl)
  ·rename_i id ep i of he
   rw[he] at hx
   split at h
   ·rename_i e xs hob
    split at h
    ·rename_i hk
     obtain⟨rfl,rfl⟩:none=q∧AV.rptr id ep i of=z:=by simpa using h
     obtain⟨b,u,hv⟩:=Qb9 hx hob hk
     have:=Q4g hS ho hv (.inl ⟨_,rfl⟩) (P:=P)
     rw[he] at this;exact this
    ·cases h
   ·cases h
  ·rename_i f b c he
   obtain⟨rfl,rfl⟩:none=q∧AV.val (.func (.func f) b c)=z:=by simpa using h
   rw[he] at hx
   have:=Q4g hS ho hx.valEq (.inr ⟨_,_,_,rfl⟩) (P:=P)
   rw[he] at this;exact this
  ·cases h
 |binOp op T x y T'=>exact Qgy hT hS M ho h hq
 |unOp op T x=>exact QhE hS ho h hq
 |convert src dst x=>exact QcD hT hS M ho h hq
 |makeFunc fn fi ca =>
  rw[ho] at h
  simp only[Q2E] at h
  split at h
  ·rename_i he
   obtain⟨rfl,rfl⟩:fi=#[]∧ca=#[]:=by simpa using he
   obtain⟨rfl,rfl⟩:none=q∧AV.val (.func fn #[] #[])=z:=by simpa using h
   exact Qbw ho
  ·cases h
 |fieldAddr T x f =>
  rw[ho] at h
  simp only[Q2E] at h
  have hx:=QN hS x
  split at h
  ·rename_i off t hf
   split at h
   ·rename_i cs he
    rw[he] at hx
    split at h
    ·rename_i hfo
     obtain⟨rfl,rfl⟩:none=q∧AV.ref (std.drp cs off)=z:=by simpa using h
     refine Q52 hT hS ho hf hfo (fun b u hr=>?_) (Q5i hx (.inl ⟨_,rfl⟩))
     rw[he] at hr
     exact QjQ hr off
    ·cases h
   ·rename_i id of he
    rw[he] at hx
    split at h
    ·rename_i hfo
     obtain⟨rfl,rfl⟩:none=q∧AV.box id (of+off)=z:=by simpa using h
     refine Q52 hT hS ho hf hfo (fun b u hr=>?_) (Q5i hx (.inr ⟨_,_,rfl⟩))
     rw[he] at hr
     obtain⟨h1,h2⟩:=hr
     simp only[Value.pointer.injEq,Option.some.injEq,Addr.mk.injEq,and_true] at h1
     exact⟨by rw[h1.1,h1.2],h2⟩
    ·cases h
   ·rename_i id ep i of he
    rw[he] at hx
    split at h
    ·rename_i e xs hob
     split at h
     ·rename_i hk
      obtain⟨rfl,rfl⟩:none=q∧AV.rptr id ep i (of+off)=z:=by simpa using h
      refine Q52 hT hS ho hf hk.2 (fun b u hr=>?_) (Qb9 hx hob hk.1)
      rw[he] at hr
      exact Qim hr hob hk.1 off
     ·cases h
    ·cases h
   ·cases h
  ·cases h
 |field T x f=>exact Qgm hT hS ho h
 |indexAddr T x i=>exact Qag hT hS M ho h hq
 |index T x i =>
  rw[ho] at h
  simp only[Q2E] at h
  split at h
  ·rename_i cs kn k h1 h2
   by_cases hk:100≤(Q4 T ty).kd∧(Q4 (Q4 T ty).elem ty).ok=true∧0≤k∧k<((Q4 T ty).kd-100:Nat)∧k.toNat * (Q4 (Q4 T ty).elem ty).size+(if (Q4 (Q4 T ty).elem ty).agg then (Q4 (Q4 T ty).elem ty).size else 1)≤cs.length
   ·rw[if_pos hk] at h
    simp only[Option.some.injEq,Prod.mk.injEq] at h
    obtain⟨rfl,rfl⟩:=h
    exact QhM hT hS ho h1 h2 hk.1 hk.2.1 hk.2.2.1 hk.2.2.2.1 hk.2.2.2.2
   ·rw[if_neg hk] at h;cases h
  ·rename_i b k n h1 h2
   split at h
   ·rename_i hk
    simp only[Option.some.injEq,Prod.mk.injEq] at h
    obtain⟨rfl,rfl⟩:=h
    obtain⟨h3,h4⟩:0≤n∧n<(b.size:Int):=hq _ rfl
    exact Qhb hT hS ho h1 h2 hk h3 h4
   ·cases h
  ·cases h
 |slice T x lo hi mx =>
  cases mx with
  |none=>exact QgO hT hS M ho h hq
  |some m=>rw[ho] at h;simp[Q2E] at h
 |extract t i =>
  rw[ho] at h
  simp only[Q2E] at h
  split at h
  ·rename_i vs hv
   obtain⟨x,h1,h2⟩:=Option.map_eq_some_iff.1 h
   obtain⟨rfl,rfl⟩:none=q∧x=z:=by simpa using h2
   exact Qdi hS ho hv h1
  ·cases h
 |call c =>
  obtain⟨callee,args,r⟩:=c
  cases callee with
  |builtin b =>
   cases b with
   |len=>exact Ql8 hT hS M ho h
   |min=>exact Ql0 hS ho h
   |max=>exact QjY hS ho h
   |_=>rw[ho] at h;simp[Q2E] at h
  |_=>rw[ho] at h;simp[Q2E] at h
 |_=>rw[ho] at h;simp[Q2E] at h
end
end Go.Proofs.YthbjpdijafccjaaGreat
namespace Go.Proofs.YthbjpdijafccjaaGreat
open Go.RowKit Go.Lib
section
variable {w w':World} {g g':Gh} {ob ob':List Ob}
theorem Q6l (w:World)(o:Obj):(w.alloc o).heap[w.heap.size]?=some o:=heap_alloc_new w o
theorem Q3X {w:World}{o:Obj}{b:Nat}(h:b<w.heap.size):(w.alloc o).heap[b]?=w.heap[b]?:=Below.heap_alloc w o b h
theorem Qcf {w:World}{o:Obj}{b k:Nat}(h:b<w.heap.size):(w.alloc o).cell? ⟨b,k,none⟩=w.cell? ⟨b,k,none⟩:=World.cell?_of_block (Q3X h)
def Gh.new (g:Gh)(w:World)(ob:List Ob):Gh:=⟨g.A,fun b=>if b=w.heap.size then some ob.length else g.G b,fun i=>if i=ob.length then w.heap.size else g.loc i,g.sub⟩
theorem Q2t {α:Type}{l:List α}{x:α}{i:Nat}(h:i<l.length):(l++[x])[i]?=l[i]?:=List.getElem?_append_left h
theorem Q3S {α:Type}{l:List α}{x:α}:(l++[x])[l.length]?=some x:=by simp
theorem Ext.new (M:Mem w g ob)(o:Obj)(x:Ob):Ext w g ob (w.alloc o) (g.new w ob) (ob++[x]):=by
 have old:∀ {b:Nat} {id:Nat},g.G b=some id→b≠w.heap.size:=fun h=>by have:=(M.own _ _ h).1;omega
 refine⟨fun b o h=>⟨h,Qcf (M.imm b o h).1⟩,fun id h=>?_,fun id h=>?_,fun id h=>?_,fun id et sz fz e xs h=>⟨fz,e,xs,?_,Nat.le_refl _,fun _=>⟨rfl,fun b hG=>⟨?_,Q3X (M.own _ _ hG).1⟩⟩⟩,fun _ _ _ _=>⟨rfl,fun _ _ h=>h⟩⟩
 ·simp[Gh.new,Nat.ne_of_lt h]
 ·rw[Q2t (Q46 h)];exact h
 ·rw[Q2t (Q4U h)];exact h
 ·rw[Q2t (Qb h)];exact h
 ·simp[Gh.new,old hG,hG]
theorem Mem.new (M:Mem w g ob)(o:Obj)(x:Ob)
  (hbox:∀ cs,x=.box cs→∃ cur T,o=.cells cur T (0,0)∧ARelC w g ob cur.toList cs) (hfb:∀ cs,x≠.fbox cs) (hit:∀ s p,x=.iter s p→o=.stringIter s p)
  (hrow:∀ et sz fz e xs,x=.row et sz fz e xs→0<sz∧∀ y∈xs,y.cells.length=sz):Mem (w.alloc o) (g.new w ob) (ob++[x]):=by
 have E:=Ext.new M o x
 have old:∀ {b:Nat} {id:Nat},g.G b=some id→b≠w.heap.size:=fun h=>by have:=(M.own _ _ h).1;omega
 have hsz:(w.alloc o).heap.size=w.heap.size+1:=by simp
 refine⟨fun id cs h=>?_,fun id cs h j u hj=>?_,fun id s p h=>?_,fun b id h=>?_,fun b k h=>?_,fun id et sz fz e xs h=>?_,fun b hs=>?_,fun b b' id h1 h2 hs hs'=>?_⟩
 ·by_cases hl:id<ob.length
  ·rw[Q2t hl] at h
   obtain⟨h1,cur,T,h2,h3⟩:=M.box id cs h
   have h4:=(M.own _ _ h1).1
   have e1:(g.new w ob).loc id=g.loc id:=by simp[Gh.new,Nat.ne_of_lt hl]
   rw[e1]
   exact⟨by simp[Gh.new,Nat.ne_of_lt h4,h1],cur,T,by rw[Q3X h4];exact h2,h3.ext E⟩
  ·have hid:id=ob.length:=by have:=Qb h;simp at this;omega
   subst hid
   rw[Q3S] at h
   obtain⟨cur,T,rfl,h2⟩:=hbox cs (by simpa using h)
   have e1:(g.new w ob).loc ob.length=w.heap.size:=by simp[Gh.new]
   rw[e1]
   exact⟨by simp[Gh.new],cur,T,Q6l w _,h2.ext E⟩
 ·by_cases hl:id<ob.length
  ·rw[Q2t hl] at h
   obtain⟨h1,y,h2,h3⟩:=M.fbox id cs h j u hj
   have e1:(g.new w ob).loc id=g.loc id:=by simp[Gh.new,Nat.ne_of_lt hl]
   rw[e1]
   exact⟨h1,y,by rw[Qcf (M.imm _ _ h1).1];exact h2,h3.keep E.A⟩
  ·have hid:id=ob.length:=by have:=Qb h;simp at this;omega
   subst hid
   rw[Q3S] at h
   exact absurd (by simpa using h) (hfb cs)
 ·by_cases hl:id<ob.length
  ·rw[Q2t hl] at h
   obtain⟨h1,h2⟩:=M.iter id s p h
   have h4:=(M.own _ _ h1).1
   have e1:(g.new w ob).loc id=g.loc id:=by simp[Gh.new,Nat.ne_of_lt hl]
   rw[e1]
   exact⟨by simp[Gh.new,Nat.ne_of_lt h4,h1],by rw[Q3X h4];exact h2⟩
  ·have hid:id=ob.length:=by have:=Qb h;simp at this;omega
   subst hid
   rw[Q3S] at h
   obtain rfl:=hit s p (by simpa using h)
   have e1:(g.new w ob).loc ob.length=w.heap.size:=by simp[Gh.new]
   rw[e1]
   exact⟨by simp[Gh.new],Q6l w _⟩
 ·simp only[Gh.new] at h
  split at h
  ·obtain rfl:ob.length=id:=by simpa using h
   rename_i hb
   rw[hb,hsz]
   exact⟨by omega,by simp⟩
  ·have:=M.own b id h
   rw[hsz]
   exact⟨by omega,by simp;omega⟩
 ·obtain⟨h1,h2⟩:=M.imm b k h
  refine⟨by rw[hsz];omega,fun id hG hs=>?_⟩
  simp only[Gh.new,Nat.ne_of_lt h1,if_false] at hG
  obtain⟨et,sz,e,xs,h3,h4⟩:=h2 id hG hs
  exact⟨et,sz,e,xs,by rw[Q2t (Qb h3)];exact h3,h4⟩
 ·by_cases hl:id<ob.length
  ·rw[Q2t hl] at h;exact M.roww id et sz fz e xs h
  ·have hid:id=ob.length:=by have:=Qb h;simp at this;omega
   subst hid
   rw[Q3S] at h
   exact hrow et sz fz e xs (by simpa using h)
 ·obtain⟨id,et,sz,fz,e,xs,h1,h2⟩:=M.nsub b hs
  exact⟨id,et,sz,fz,e,xs,by simp[Gh.new,old h1,h1],by rw[Q2t (Qb h2)];exact h2⟩
 ·simp only[Gh.new] at h1 h2
  split at h1<;>split at h2
  ·rename_i e1 e2;exact e1.trans e2.symm
  ·cases h1;exact absurd (M.own _ _ h2).2 (Nat.lt_irrefl _)
  ·cases h2;exact absurd (M.own _ _ h1).2 (Nat.lt_irrefl _)
  ·exact M.uniq b b' id h1 h2 hs hs'
def Gh.imm (g:Gh)(w w':World):Gh:=⟨fun b o=>g.A b o∨(w.heap.size≤b∧b<w'.heap.size),g.G,g.loc,g.sub⟩
theorem Ext.immNew (M:Mem w g ob)(hb:Below w.heap.size w w'):Ext w g ob w' (g.imm w w') ob :=
 ⟨fun b o h=>⟨.inl h,World.cell?_of_block (w:=w) (hb.block b (M.imm b o h).1)⟩,fun _ _=>rfl,fun _ h=>h,fun _ h=>h,
  fun _ _ _ fz e xs h=>⟨fz,e,xs,h,Nat.le_refl _,fun _=>⟨rfl,fun b hG=>⟨hG,hb.block b (M.own b _ hG).1⟩⟩⟩,
  fun b id hG _=>⟨rfl,fun _ o h=>h.resolve_right fun h2=>by have:=(M.own b id hG).1;omega⟩⟩
theorem Mem.immNew (M:Mem w g ob)(hb:Below w.heap.size w w'):Mem w' (g.imm w w') ob:=by
 have E:=Ext.immNew M hb
 refine⟨fun id cs h=>?_,fun id cs h j u hj=>?_,fun id s pos h=>?_,fun b id h=>⟨Nat.lt_of_lt_of_le (M.own b id h).1 hb.size,(M.own b id h).2⟩,fun b o h=>?_,M.roww,M.nsub,M.uniq⟩
 ·obtain⟨h1,cur,T,h2,h3⟩:=M.box id cs h
  exact⟨h1,cur,T,(hb.block _ (M.own _ _ h1).1).trans h2,h3.ext E⟩
 ·obtain⟨h1,y,h2,h3⟩:=M.fbox id cs h j u hj
  exact⟨.inl h1,y,(E.A _ _ h1).2.trans h2,h3.keep E.A⟩
 ·obtain⟨h1,h2⟩:=M.iter id s pos h
  exact⟨h1,(hb.block _ (M.own _ _ h1).1).trans h2⟩
 ·rcases h with h|⟨h1,h2⟩
  ·exact⟨Nat.lt_of_lt_of_le (M.imm b o h).1 hb.size,(M.imm b o h).2⟩
  ·exact⟨h2,fun id hG _=>by have:=(M.own b id hG).1;omega⟩
theorem Q1G {W:World}{b o k:Nat}{vs:List Value}{b':Nat}(h:b'≠b):(W.setCells b o vs).heap[b']?=W.heap[b']?:=by
 induction vs generalizing o W with
 |nil=>rfl
 |cons v r ih =>
  show ((W.setCell ⟨b,o,none⟩ v).setCells b (o+1) r).heap[b']?=_
  rw[ih]
  exact Below.heap_setCell W _ v b' h
theorem Q3d {W:World}{b:Nat}{T:TypeId}{fr:Nat×Nat}:∀ (vs:List Value) (o:Nat) (W:World) (cur:Array Value),W.heap[b]?=some (.cells cur T fr)→o+vs.length≤cur.size →
  (W.setCells b o vs).heap[b]?=some (.cells (cur.toList.take o++(vs++cur.toList.drop (o+vs.length))).toArray T fr)
 | [],o,W,cur,h,_=>by
  show W.heap[b]?=_
  rw[h];simp
 |v::r,o,W,cur,h,hl=>by
  have h1:(W.setCell ⟨b,o,none⟩ v).heap[b]?=some (.cells (cur.setIfInBounds o v) T fr):=by
   simp only[World.setCell,Array.getElem?_modify,if_true,h,Option.map_some]
   rfl
  have h2:=Q3d (W:=W) r (o+1) _ _ h1 (by simp at hl ⊢;omega)
  show ((W.setCell ⟨b,o,none⟩ v).setCells b (o+1) r).heap[b]?=_
  rw[h2]
  congr 2
  have ho:o<cur.toList.length:=by simp at hl ⊢;omega
  rw[Array.toList_setIfInBounds,List.take_succ_eq_append_getElem (by simpa using ho),List.getElem_set_self,List.take_set_of_le (by omega),List.drop_set_of_lt (by omega)]
  simp only[List.append_assoc,List.singleton_append,List.cons_append,List.length_cons,List.nil_append]
  rw[show o+1+r.length=o+(r.length+1) by omega]
theorem Q34 (W:World)(b o:Nat)(vs:List Value):(W.setCells b o vs).heap.size=W.heap.size:=by
 induction vs generalizing o W with
 |nil=>rfl
 |cons v r ih =>
  show ((W.setCell ⟨b,o,none⟩ v).setCells b (o+1) r).heap.size=_
  rw[ih];simp[World.setCell]
theorem QaG (M:Mem w g ob){id:Nat}{cs:List AV}(h:ob[id]?=some (.box cs)){b o:Nat}(hA:g.A b o):b≠g.loc id:=by
 rintro rfl
 obtain⟨et,sz,e,xs,h1,_⟩:=(M.imm _ _ hA).2 id (M.box id cs h).1 (M.nosub (M.box id cs h).1 fun _ _ _ _ _ h2=>by rw[h] at h2;cases h2)
 rw[h] at h1;cases h1
theorem Ext.store (M:Mem w g ob){id:Nat}{cs:List AV}(h:ob[id]?=some (.box cs))(off:Nat)(vs:List Value)(us:List AV) :
  Ext w g ob (w.setCells (g.loc id) off vs) g (ob.set id (.box us)):=by
 have hl:=Qb h
 have ne:∀ {b id':Nat},g.G b=some id'→id'≠id→b≠g.loc id:=by
  rintro b id' hG hne rfl
  rw[(M.box id cs h).1] at hG
  exact hne (by simpa using hG.symm)
 refine⟨fun b o hA=>⟨hA,World.cell?_of_block (w:=w) (Q1G (k:=0) (QaG M h hA))⟩,fun _ _=>rfl,fun i hi=>?_,fun i hi=>?_,fun i et sz fz e xs hi=>⟨fz,e,xs,?_,Nat.le_refl _,fun _=>⟨rfl,fun b hG=>⟨hG,?_⟩⟩⟩,fun _ _ _ _=>⟨rfl,fun _ _ h=>h⟩⟩
 ·by_cases e:i=id
  ·subst e;rw[List.getElem?_set_self hl];trivial
  ·rw[List.getElem?_set_ne (Ne.symm e)];exact hi
 ·by_cases e:i=id
  ·subst e;rw[h] at hi;exact hi.elim
  ·rw[List.getElem?_set_ne (Ne.symm e)];exact hi
 ·by_cases e:i=id
  ·subst e;rw[h] at hi;cases hi
  ·rw[List.getElem?_set_ne (Ne.symm e)];exact hi
 ·by_cases e:i=id
  ·subst e;rw[h] at hi;cases hi
  ·exact Q1G (k:=0) (ne hG e)
theorem Mem.store (M:Mem w g ob){id:Nat}{cs:List AV}(h:ob[id]?=some (.box cs)){off:Nat}{vs:List Value}{us:List AV}(hv:ARelC w g ob vs us)(hl:off+us.length≤cs.length) :
  Mem (w.setCells (g.loc id) off vs) g (ob.set id (.box (setCells cs off us))):=by
 have E:=Ext.store M h off vs (setCells cs off us)
 have hid:=Qb h
 obtain⟨h1,cur,T,h2,h3⟩:=M.box id cs h
 have ne:∀ {b id':Nat},g.G b=some id'→id'≠id→b≠g.loc id:=by
  rintro b id' hG hne rfl
  rw[h1] at hG
  exact hne (by simpa using hG.symm)
 have hcl:cur.size=cs.length:=by simpa using h3.1
 refine⟨fun i c hi=>?_,fun i c hi j u hj=>?_,fun i s pos hi=>?_,fun b i hG=>by rw[Q34,List.length_set];exact M.own b i hG,fun b o hA=>?_,fun i et sz fz e xs hi=>?_,fun b hs=>?_,M.uniq⟩
 ·by_cases e:i=id
  ·subst e
   rw[List.getElem?_set_self hid] at hi
   obtain rfl:setCells cs off us=c:=by simpa using hi
   refine⟨h1,_,T,Q3d (W:=w) vs off w cur h2 (by rw[hv.1,hcl];exact hl),?_⟩
   have:=Q7S h3 hv hl
   exact (ARelC.ext E this)
  ·rw[List.getElem?_set_ne (Ne.symm e)] at hi
   obtain⟨h4,cur',T',h5,h6⟩:=M.box i c hi
   exact⟨h4,cur',T',by rw[Q1G (k:=0) (ne h4 e)];exact h5,h6.ext E⟩
 ·by_cases e:i=id
  ·subst e;rw[List.getElem?_set_self hid] at hi;cases hi
  ·rw[List.getElem?_set_ne (Ne.symm e)] at hi
   obtain⟨h4,y,h5,h6⟩:=M.fbox i c hi j u hj
   exact⟨h4,y,by rw[(E.A _ _ h4).2];exact h5,h6.keep E.A⟩
 ·by_cases e:i=id
  ·subst e;rw[List.getElem?_set_self hid] at hi;cases hi
  ·rw[List.getElem?_set_ne (Ne.symm e)] at hi
   obtain⟨h4,h5⟩:=M.iter i s pos hi
   exact⟨h4,by rw[Q1G (k:=0) (ne h4 e)];exact h5⟩
 ·obtain⟨h4,h5⟩:=M.imm b o hA
  refine⟨by rw[Q34];exact h4,fun i hG hs=>?_⟩
  obtain⟨et,sz,e,xs,h6,h7⟩:=h5 i hG hs
  have hne:i≠id:=by rintro rfl;rw[h] at h6;cases h6
  exact⟨et,sz,e,xs,by rw[List.getElem?_set_ne (Ne.symm hne)];exact h6,h7⟩
 ·by_cases e':i=id
  ·subst e';rw[List.getElem?_set_self hid] at hi;cases hi
  ·rw[List.getElem?_set_ne (Ne.symm e')] at hi;exact M.roww i et sz fz e xs hi
 ·obtain⟨i,et,sz,fz,e,xs,h4,h5⟩:=M.nsub b hs
  have e':i≠id:=by rintro rfl;rw[h] at h5;cases h5
  exact⟨i,et,sz,fz,e,xs,h4,by rw[List.getElem?_set_ne (Ne.symm e')];exact h5⟩
end
end Go.Proofs.YthbjpdijafccjaaGreat
namespace Go.Proofs.YthbjpdijafccjaaGreat
open Go.RowKit Go.Lib
section
variable {P:Program} {w:World}
theorem Q8Y {t u ty e:TypeId}{i:TypeInfo}{z:Value}{d:TypeDesc}{size:Nat}(ht:P.underlying t=some (.slice e))(hu:P.underlying u=some d)(hd:(∃ e',d=.slice e')∨d=.string)(hi:P.info? e=some i)(hz:i.zero=some z)
  (hsize:i.size=size) (hby:i.bytes≤140000) (hzs:z.cells.size=size)
  {v:Value} {n:Nat} {xs:List Value} (hown:w.ownsRow 0 e size v n xs) {x:Value} {m:Nat} {news:List Value} (hl:news.length=m * size)
  (hlen:∀ W,(Builtin.lenOf x).run P W=.ok m W) (hfc:∀ W:World,W.heap=w.heap→(Builtin.firstCells size m x).run P W=.ok news.toArray W) (h1:∀ u∈news,u.oneCell'=true) (hb:n+m≤1000000000) :
  ∃ v' w',(Builtin.append_ #[t,u] ty #[v,x]).run P w=.ok v' w'∧w'.ownsRow 0 e size v' (n+m) (xs++news)∧w.grownBy w' v.ownBlock∧(v'.ownBlock=v.ownBlock∨v'.ownBlock=some w.heap.size) ∧
   (∀ b k,b<w.heap.size→(v.ownBlock=some b→k<n * size)→w'.cell? ⟨b,k,none⟩=w.cell? ⟨b,k,none⟩):=by
 subst hsize
 have hbyt:(n+m) * i.bytes≤140737488355328:=Nat.le_trans (Nat.mul_le_mul hb hby) (by decide)
 have hlen':(xs++news).length=(n+m) * i.size:=by rw[List.length_append,hown.1,hl,Nat.add_mul]
 -- the arm that grows
 have grow:∀ (old:Nat) (base:Option Addr),old<n+m→(∀ W:World,W.heap=w.heap→(Builtin.firstCells i.size n (.slice base n old)).run P W=.ok xs.toArray W) →
   (Builtin.append_ #[t,u] ty #[.slice base n old,x]).run P w=.ok (.slice (some ⟨w.heap.size,0,none⟩) (n+m) (grownCap w (n+m) old e))
    (w.drew.alloc (.cells (xs.toArray++news.toArray++Builtin.zeroCells z.cells (grownCap w (n+m) old e-(n+m))) e)):=by
  intro old base ho hxs
  have a1:¬ n+m≤old:=by omega
  have a2:¬ (9223372036854775807<((n:Int)+(m:Int))):=by omega
  have a3:¬ (281474976710656<Builtin.nextslicecap (n+m) old * i.bytes):=by have:=growslice_fits (old:=old) (by omega) hbyt;omega
  have hf:=hfc w.drew rfl
  have hf2:=hxs w.drew rfl
  rcases hd with ⟨e',rfl⟩|rfl<;>simp[Builtin.append_,run_underlying ht,run_underlying hu,sizeOf,typeInfo,zeroValue,hi,hz,hlen,a1,a2,a3,Question.forced,hf,hf2,newRow,grownCap]
  all_goals
   congr 2
   apply Array.ext'
   simp only[Array.toList_append,List.append_assoc]
 have grown:∀ (old:Nat),old<n+m→∀ (row:Option Nat),
   (w.drew.alloc (.cells (xs.toArray++news.toArray++Builtin.zeroCells z.cells (grownCap w (n+m) old e-(n+m))) e)).ownsRow 0 e i.size
    (.slice (some ⟨w.heap.size,0,none⟩) (n+m) (grownCap w (n+m) old e)) (n+m) (xs++news):=by
  intro old ho row
  have hge:=grownCap_ge w (n+m) old e
  have hcm:grownCap w (n+m) old e≤maxLen:=grownCap_le_maxLen w (n+m) old e (by unfold maxLen;omega)
  refine⟨hlen',.inr ⟨w.heap.size,_,_,rfl,Nat.zero_le _,Q6l w.drew _,hge,hcm,?_,?_⟩⟩
  ·rw[Array.size_append,size_zeroCells,hzs,Array.size_append,List.size_toArray,List.size_toArray,hown.1,hl,←Nat.add_mul,←Nat.add_mul]
   congr 1
   omega
  ·rw[←hlen',Array.toList_append,Array.toList_append]
   exact List.take_left
 have keepG:∀ (o:Obj) (row:Option Nat),w.grownBy (w.drew.alloc o) row:=fun o row=>⟨rfl,rfl,rfl,by simp,fun k hk _=>Q3X (w:=w.drew) hk⟩
 have keepC:∀ (o:Obj) (b k:Nat),b<w.heap.size→(w.drew.alloc o).cell? ⟨b,k,none⟩=w.cell? ⟨b,k,none⟩:=fun o b k hb=>World.cell?_of_block (w:=w) (Q3X (w:=w.drew) hb)
 rcases hown.2 with ⟨rfl,rfl⟩|⟨g,cap,cur,rfl,hbg,hg,hnc,hcm,hcs,htake⟩
 ·have hx:xs=[]:=List.eq_nil_of_length_eq_zero (by simpa using hown.1)
  subst hx
  by_cases hm:m=0
  ·subst hm
   have hn:news=[]:=List.eq_nil_of_length_eq_zero (by simpa using hl)
   subst hn
   refine⟨.slice none 0 0,w,?_,World.ownsRow_nil w 0 e i.size,⟨rfl,rfl,rfl,Nat.le_refl _,fun _ _ _=>rfl⟩,.inl rfl,fun _ _ _ _=>rfl⟩
   have hf:=hfc w rfl
   rcases hd with ⟨e',rfl⟩|rfl<;>simp[Builtin.append_,run_underlying ht,run_underlying hu,sizeOf,typeInfo,hi,hlen,hf]
  ·have hr:=grow 0 none (by omega) (fun W _=>by simp[Builtin.firstCells])
   exact⟨_,_,hr,grown 0 (by omega) none,keepG _ _,.inr rfl,fun b k hb _=>keepC _ b k hb⟩
 ·by_cases hroom:n+m≤cap
  ·have hfit:n * i.size+news.length≤cur.size:=by rw[hl,hcs,←Nat.add_mul];exact Nat.mul_le_mul_right _ hroom
   have hst:=run_storeCells_at P g (n * i.size) e news 0 cur w hg (by simpa using hfit) h1
   simp only[Nat.add_zero] at hst
   have hf:=hfc w rfl
   have hr:(Builtin.append_ #[t,u] ty #[.slice (some ⟨g,0,none⟩) n cap,x]).run P w =
     .ok (.slice (some ⟨g,0,none⟩) (n+m) cap) (w.setRow g (cur.toList.take (n * i.size)++news++cur.toList.drop (n * i.size+news.length)).toArray):=by
    rcases hd with ⟨e',rfl⟩|rfl<;>simp[Builtin.append_,run_underlying ht,run_underlying hu,sizeOf,typeInfo,hi,hlen,hroom,hf,Addr.add_lit,hst]
   have hrow:=setRow_heap w g cur (cur.toList.take (n * i.size)++news++cur.toList.drop (n * i.size+news.length)).toArray e _ hg
   have hlt:g<w.heap.size:=(Array.getElem?_eq_some_iff.1 hg).1
   refine⟨_,_,hr,⟨hlen',.inr ⟨g,cap,_,rfl,hbg,hrow,hroom,hcm,?_,?_⟩⟩,⟨rfl,rfl,rfl,by simp,fun k _ hk=>setRow_other w g k _ (fun e=>hk (by simp[Value.ownBlock,e]))⟩,.inl rfl,fun b k hb hk=>?_⟩
   ·simp only[List.size_toArray,List.length_append,List.length_take,List.length_drop,Array.length_toList]
    omega
   ·rw[htake,←hlen']
    exact List.take_left
   ·by_cases hbg':b=g
    ·subst hbg'
     have hk':=hk rfl
     simp only[World.cell?,hrow,hg]
     have h2:k<cur.size:=by omega
     have h3:k<(cur.toList.take (n * i.size)).length:=by rw[List.length_take,Array.length_toList];omega
     rw[List.append_assoc]
     simp only[Option.isSome_none,Bool.false_eq_true,if_false]
     rw[List.getElem?_toArray,List.getElem?_append_left h3,List.getElem?_take,if_pos hk',Array.getElem?_toList]
    ·exact World.cell?_of_block (w:=w) (setRow_other w g b _ hbg')
  ·have hr:=grow cap (some ⟨g,0,none⟩) (by omega) (fun W hW=>by
    have:∀ j u,xs[j]?=some u→W.cell? ((⟨g,0,none⟩:Addr).add j)=some u:=fun j u hj=>by
     rw[show W.cell? ((⟨g,0,none⟩:Addr).add j)=w.cell? ((⟨g,0,none⟩:Addr).add j) from by simp only[World.cell?,hW]]
     exact hown.cells (g:=g) rfl j u hj
    have h2:=run_loadCells_list (P:=P) W (⟨g,0,none⟩:Addr) xs this
    rw[hown.1] at h2
    simpa[Builtin.firstCells] using h2)
   exact⟨_,_,hr,grown cap (by omega) none,keepG _ _,.inr rfl,fun b k hb _=>keepC _ b k hb⟩
end
section
variable {w w':World} {g:Gh} {ob:List Ob}
def Gh.grow (g:Gh)(id:Nat)(vb:Option Nat):Gh:=⟨g.A,fun b=>if vb=some b then some id else if g.G b=some id∧g.sub b=false then none else g.G b,g.loc,g.sub⟩
theorem Gh.grow_self {id:Nat}{vb:Option Nat}{b:Nat}(h:vb=some b):(g.grow id vb).G b=some id:=by
 show (if vb=some b then some id else _)=_
 rw[if_pos h]
theorem Gh.grow_of {id:Nat}{vb:Option Nat}{b i:Nat}(h:(g.grow id vb).G b=some i):(vb=some b∧i=id)∨(g.G b=some i∧(i=id→g.sub b=true)):=by
 have h:(if vb=some b then some id else if g.G b=some id∧g.sub b=false then none else g.G b)=some i:=h
 split at h
 ·rename_i e;exact .inl ⟨e,(Option.some.inj h).symm⟩
 ·split at h
  ·cases h
  ·rename_i h2
   refine .inr ⟨h,fun e=>?_⟩
   cases hs:g.sub b with
   |true=>rfl
   |false=>exact absurd ⟨e ▸ h,hs⟩ h2
theorem Mem.grow_sub (M:Mem w g ob){id:Nat}{row vb:Option Nat}(hrow:∀ b,row=some b→g.G b=some id∧g.sub b=false)(hvb:∀ b,vb=some b→row=some b∨(w.heap.size≤b∧b<w'.heap.size))
  {b i:Nat} (h:g.G b=some i) (hs:g.sub b=true):(g.grow id vb).G b=some i:=by
 have h1:vb≠some b:=fun e=>by
  rcases hvb b e with h2|h2
  ·rw[(hrow b h2).2] at hs;cases hs
  ·have:=(M.own b i h).1;omega
 show (if vb=some b then some id else if g.G b=some id∧g.sub b=false then none else g.G b)=_
 rw[if_neg h1,if_neg (fun h2=>by rw[h2.2] at hs;cases hs)]
 exact h
theorem Mem.grow_ne (M:Mem w g ob){id:Nat}{row vb:Option Nat}(hrow:∀ b,row=some b→g.G b=some id∧g.sub b=false)(hvb:∀ b,vb=some b→row=some b∨(w.heap.size≤b∧b<w'.heap.size))
  {b i:Nat} (h:g.G b=some i) (hi:i≠id):(g.grow id vb).G b=some i:=by
 have h1:vb≠some b:=fun e=>by
  rcases hvb b e with h2|h2
  ·have:=(hrow b h2).1.symm.trans h
   exact hi (Option.some.inj this).symm
  ·have:=(M.own b i h).1;omega
 show (if vb=some b then some id else if g.G b=some id∧g.sub b=false then none else g.G b)=_
 rw[if_neg h1,if_neg (fun h2=>hi (Option.some.inj (h.symm.trans h2.1)))]
 exact h
theorem Mem.grow (M:Mem w g ob){id et sz ep:Nat}{fz fz':Bool}{xs xs':List AV}(h:ob[id]?=some (.row et sz fz ep xs))(hfz:fz=true→fz'=true)
  {row vb:Option Nat} {n:Nat} (hg:w.grownBy w' row) (hrow:∀ b,row=some b→g.G b=some id∧g.sub b=false) (hvb:∀ b,vb=some b→row=some b∨(w.heap.size≤b∧b<w'.heap.size))
  (hc:∀ b k,b<w.heap.size→(row=some b→k<n * sz)→w'.cell? ⟨b,k,none⟩=w.cell? ⟨b,k,none⟩)
  (hn:fz=true→xs.length≤n) (hlen:fz=true→xs.length≤xs'.length) (hw:∀ x∈xs',x.cells.length=sz) :
  Ext w g ob w' (g.grow id vb) (ob.set id (.row et sz fz' (ep+1) xs'))∧Mem w' (g.grow id vb) (ob.set id (.row et sz fz' (ep+1) xs')):=by
 have hid:=Qb h
 have hne:∀ {b i:Nat},g.G b=some i→i≠id→(g.grow id vb).G b=some i:=fun h1 h2=>M.grow_ne hrow hvb h1 h2
 have hlt2:∀ b,vb=some b→b<w'.heap.size:=fun b hb=>by
  rcases hvb b hb with h1|h1
  ·exact Nat.lt_of_lt_of_le (M.own b id (hrow b h1).1).1 hg.size
  ·exact h1.2
 have ne:∀ {b i:Nat},g.G b=some i→i≠id→some b≠row:=by
  rintro b i h1 h2 h3
  rw[(hrow b h3.symm).1] at h1
  exact h2 (by simpa using h1.symm)
 have hA:∀ b o,g.A b o→w'.cell? ⟨b,o,none⟩=w.cell? ⟨b,o,none⟩:=fun b o hA=>by
  obtain⟨h1,h2⟩:=M.imm b o hA
  refine hc b o h1 fun hb=>?_
  obtain⟨et',sz',e',xs2,h3,h4⟩:=h2 id (hrow b hb).1 (hrow b hb).2
  rw[h] at h3
  obtain⟨rfl,rfl,rfl,rfl,rfl⟩:et=et'∧sz=sz'∧fz=true∧ep=e'∧xs=xs2:=by simpa using h3
  exact Nat.lt_of_lt_of_le h4 (Nat.mul_le_mul_right _ (hn rfl))
 have E:Ext w g ob w' (g.grow id vb) (ob.set id (.row et sz fz' (ep+1) xs')):=by
  refine⟨fun b o h=>⟨h,hA b o h⟩,fun _ _=>rfl,fun i hi=>?_,fun i hi=>?_,fun i et' sz' fz2 e xs2 hi=>?_,fun _ _ _ _=>⟨rfl,fun _ _ h=>h⟩⟩
  ·have:i≠id:=by rintro rfl;rw[h] at hi;exact hi
   rw[List.getElem?_set_ne (Ne.symm this)];exact hi
  ·have:i≠id:=by rintro rfl;rw[h] at hi;exact hi
   rw[List.getElem?_set_ne (Ne.symm this)];exact hi
  ·by_cases e':i=id
   ·subst e'
    rw[h] at hi
    obtain⟨rfl,rfl,rfl,rfl,rfl⟩:et=et'∧sz=sz'∧fz=fz2∧ep=e∧xs=xs2:=by simpa using hi
    exact⟨fz',ep+1,xs',List.getElem?_set_self hid,by omega,fun h=>by omega⟩
   ·refine⟨fz2,e,xs2,by rw[List.getElem?_set_ne (Ne.symm e')];exact hi,Nat.le_refl _,fun _=>⟨rfl,fun b hG=>?_⟩⟩
    have hlt:=(M.own _ _ hG).1
    exact⟨hne hG e',hg.block b hlt (ne hG e')⟩
 refine⟨E,fun i cs hi=>?_,fun i cs hi j u hj=>?_,fun i s p hi=>?_,fun b i hG=>?_,fun b o hA'=>?_,fun i et' sz' fz2 e xs2 hi=>?_,fun b hs=>?_,fun b b' i h1 h2 hs hs'=>?_⟩
 ·have e':i≠id:=by rintro rfl;rw[List.getElem?_set_self hid] at hi;cases hi
  rw[List.getElem?_set_ne (Ne.symm e')] at hi
  obtain⟨h1,cur,T,h2,h3⟩:=M.box i cs hi
  have hlt:=(M.own _ _ h1).1
  exact⟨hne h1 e',cur,T,(hg.block _ hlt (ne h1 e')).trans h2,h3.ext E⟩
 ·have e':i≠id:=by rintro rfl;rw[List.getElem?_set_self hid] at hi;cases hi
  rw[List.getElem?_set_ne (Ne.symm e')] at hi
  obtain⟨h1,y,h2,h3⟩:=M.fbox i cs hi j u hj
  exact⟨h1,y,(hA _ _ h1).trans h2,h3.keep E.A⟩
 ·have e':i≠id:=by rintro rfl;rw[List.getElem?_set_self hid] at hi;cases hi
  rw[List.getElem?_set_ne (Ne.symm e')] at hi
  obtain⟨h1,h2⟩:=M.iter i s p hi
  have hlt:=(M.own _ _ h1).1
  exact⟨hne h1 e',(hg.block _ hlt (ne h1 e')).trans h2⟩
 ·rw[List.length_set]
  rcases Gh.grow_of hG with ⟨h1,rfl⟩|⟨h1,_⟩
  ·exact⟨hlt2 b h1,hid⟩
  ·exact⟨Nat.lt_of_lt_of_le (M.own b i h1).1 hg.size,(M.own b i h1).2⟩
 ·obtain⟨h1,h2⟩:=M.imm b o hA'
  refine⟨Nat.lt_of_lt_of_le h1 hg.size,fun i hG hs=>?_⟩
  have hG:g.G b=some i:=by
   rcases Gh.grow_of hG with ⟨h3,rfl⟩|⟨h3,_⟩
   ·rcases hvb b h3 with h4|h4
    ·exact (hrow b h4).1
    ·omega
   ·exact h3
  obtain⟨et',sz',e,xs2,h3,h4⟩:=h2 i hG hs
  by_cases e':i=id
  ·subst e'
   rw[h] at h3
   obtain⟨rfl,rfl,rfl,rfl,rfl⟩:et=et'∧sz=sz'∧fz=true∧ep=e∧xs=xs2:=by simpa using h3
   exact⟨et,sz,ep+1,xs',by rw[List.getElem?_set_self hid,hfz rfl],Nat.lt_of_lt_of_le h4 (Nat.mul_le_mul_right _ (hlen rfl))⟩
  ·exact⟨et',sz',e,xs2,by rw[List.getElem?_set_ne (Ne.symm e')];exact h3,h4⟩
 ·by_cases e':i=id
  ·subst e'
   rw[List.getElem?_set_self hid] at hi
   obtain⟨rfl,rfl,rfl,rfl,rfl⟩:et=et'∧sz=sz'∧fz'=fz2∧ep+1=e∧xs'=xs2:=by simpa using hi
   exact⟨(M.roww _ _ _ _ _ _ h).1,hw⟩
  ·rw[List.getElem?_set_ne (Ne.symm e')] at hi;exact M.roww i et' sz' fz2 e xs2 hi
 ·obtain⟨i,et',sz',fz2,e,xs2,h3,h4⟩:=M.nsub b hs
  have h5:(g.grow id vb).G b=some i:=M.grow_sub hrow hvb h3 hs
  by_cases e':i=id
  ·subst e'
   exact⟨i,_,_,_,_,_,h5,List.getElem?_set_self hid⟩
  ·exact⟨i,et',sz',fz2,e,xs2,h5,by rw[List.getElem?_set_ne (Ne.symm e')];exact h4⟩
 ·rcases Gh.grow_of h1 with ⟨h3,rfl⟩|⟨h3,h4⟩
  ·rcases Gh.grow_of h2 with ⟨h5,_⟩|⟨h5,h6⟩
   ·exact Option.some.inj (h3.symm.trans h5)
   ·have:=h6 rfl
    rw[show g.sub b'=false from hs'] at this;cases this
  ·rcases Gh.grow_of h2 with ⟨h5,rfl⟩|⟨h5,h6⟩
   ·have:=h4 rfl
    rw[show g.sub b=false from hs] at this;cases this
   ·exact M.uniq b b' i h3 h5 hs hs'
end
end Go.Proofs.YthbjpdijafccjaaGreat
namespace Go.Proofs.YthbjpdijafccjaaGreat
open Go.RowKit Go.Lib
section
variable {w:World} {g:Gh} {ob:List Ob}
structure GhLe (g g':Gh) (ob ob':List Ob):Prop where
 A:∀ b o,g'.A b o→g.A b o∨∃ id,g.G b=some id
 G:∀ b id,g'.G b=some id→g.G b=some id
 loc:g'.loc=g.loc
 len:ob'.length=ob.length
theorem GhLe.refl:GhLe g g ob ob:=⟨fun _ _ h=>.inl h,fun _ _ h=>h,rfl,rfl⟩
theorem GhLe.trans {g1 g2 g3:Gh}{o1 o2 o3:List Ob}(h:GhLe g1 g2 o1 o2)(k:GhLe g2 g3 o2 o3):GhLe g1 g3 o1 o3 :=
 ⟨fun b o h3=>by
  rcases k.A b o h3 with h2|⟨id,h2⟩
  ·exact h.A b o h2
  ·exact .inr ⟨id,h.G b id h2⟩,fun b id h3=>h.G b id (k.G b id h3),k.loc.trans h.loc,k.len.trans h.len⟩
theorem Ext.trans {w1 w2 w3:World}{g1 g2 g3:Gh}{o1 o2 o3:List Ob}(h:Ext w1 g1 o1 w2 g2 o2)(k:Ext w2 g2 o2 w3 g3 o3)(hl:o1.length≤o2.length):Ext w1 g1 o1 w3 g3 o3:=by
 refine⟨fun b o hA=>⟨(k.A b o (h.A b o hA).1).1,(k.A b o (h.A b o hA).1).2.trans (h.A b o hA).2⟩,fun id hid=>(k.loc id (by omega)).trans (h.loc id hid),fun id hi=>k.isb id (h.isb id hi),fun id hi=>k.isi id (h.isi id hi),fun id et sz fz e xs hr=>?_,fun b id hG hs=>?_⟩
 rotate_left
 ·obtain⟨et,sz,fz,fz',e,xs,xs',hr,hr'⟩:=hs
  obtain⟨fz2,e2,xs2,h1,h2,h3⟩:=h.row id et sz fz e xs hr
  obtain⟨fz3,e3,xs3,h4,h5,h6⟩:=k.row id et sz fz2 e2 xs2 h1
  rw[h4] at hr'
  obtain⟨rfl,rfl,rfl⟩:fz3=fz'∧e3=e∧xs3=xs':=by simpa using hr'
  obtain rfl:e2=e3:=by omega
  obtain⟨h7,h8⟩:=h.sub b id hG ⟨_,_,_,_,_,_,_,hr,h1⟩
  obtain⟨h9,h10⟩:=k.sub b id ((h3 rfl).2 b hG).1 ⟨_,_,_,_,_,_,_,h1,h4⟩
  exact⟨h9.trans h7,fun hsb o hA=>h8 hsb o (h10 (h7.trans hsb) o hA)⟩
 obtain⟨fz2,e2,xs2,h1,h2,h3⟩:=h.row id et sz fz e xs hr
 obtain⟨fz3,e3,xs3,h4,h5,h6⟩:=k.row id et sz fz2 e2 xs2 h1
 refine⟨fz3,e3,xs3,h4,by omega,fun he=>?_⟩
 obtain⟨rfl,h7⟩:=h3 (by omega)
 obtain⟨rfl,h8⟩:=h6 (by omega)
 exact⟨rfl,fun b hG=>⟨(h8 b (h7 b hG).1).1,(h8 b (h7 b hG).1).2.trans (h7 b hG).2⟩⟩
def Gh.frz (g:Gh)(b n:Nat):Gh:=⟨fun b' o=>g.A b' o∨(b'=b∧o<n),g.G,g.loc,g.sub⟩
theorem Q71 (M:Mem w g ob){id et sz ep:Nat}{fz:Bool}{xs:List AV}(h:ob[id]?=some (.row et sz fz ep xs)){v:Value}{ys:List AV}(hv:RowV w g id et sz v ys)(hl:ys.length≤xs.length) :
  ∃ g',Mem w g' (ob.set id (.row et sz true ep xs))∧Ext w g ob w g' (ob.set id (.row et sz true ep xs))∧PRel w g'.A v (.slc sz ys)∧GhLe g g' ob (ob.set id (.row et sz true ep xs)):=by
 have hid:=Qb h
 -- whatever the cells that are frozen: those of one block of this row
 have key:∀ (b n:Nat),g.G b=some id→g.sub b=false→b<w.heap.size→n≤xs.length * sz →
   Mem w (g.frz b n) (ob.set id (.row et sz true ep xs))∧Ext w g ob w (g.frz b n) (ob.set id (.row et sz true ep xs))∧GhLe g (g.frz b n) ob (ob.set id (.row et sz true ep xs)):=by
  intro b n hG hsb hb hn
  have E:Ext w g ob w (g.frz b n) (ob.set id (.row et sz true ep xs)):=by
   refine⟨fun b o h=>⟨.inl h,rfl⟩,fun _ _=>rfl,fun i hi=>?_,fun i hi=>?_,fun i et' sz' fz2 e xs2 hi=>?_,fun b' _ _ _=>⟨rfl,fun h1 _ h2=>h2.resolve_right fun h3=>by rw[h3.1,hsb] at h1;cases h1⟩⟩
   ·have:i≠id:=by rintro rfl;rw[h] at hi;exact hi
    rw[List.getElem?_set_ne (Ne.symm this)];exact hi
   ·have:i≠id:=by rintro rfl;rw[h] at hi;exact hi
    rw[List.getElem?_set_ne (Ne.symm this)];exact hi
   ·by_cases e':i=id
    ·subst e'
     rw[h] at hi
     obtain⟨rfl,rfl,rfl,rfl,rfl⟩:et=et'∧sz=sz'∧fz=fz2∧ep=e∧xs=xs2:=by simpa using hi
     exact⟨true,ep,xs,List.getElem?_set_self hid,Nat.le_refl _,fun _=>⟨rfl,fun b hG=>⟨hG,rfl⟩⟩⟩
    ·exact⟨fz2,e,xs2,by rw[List.getElem?_set_ne (Ne.symm e')];exact hi,Nat.le_refl _,fun _=>⟨rfl,fun b hG=>⟨hG,rfl⟩⟩⟩
  refine⟨⟨fun i cs hi=>?_,fun i cs hi j u hj=>?_,fun i s p hi=>?_,fun b i hG=>⟨(M.own b i hG).1,by rw[List.length_set];exact (M.own b i hG).2⟩,fun b' o hA=>?_,fun i et' sz' fz2 e xs2 hi=>?_,fun b' hs=>?_,M.uniq⟩,E,
   ⟨fun b' o hA=>hA.imp_right fun⟨h1,_⟩=>⟨id,h1 ▸ hG⟩,fun _ _ h=>h,rfl,by simp⟩⟩
  ·have e':i≠id:=by rintro rfl;rw[List.getElem?_set_self hid] at hi;cases hi
   rw[List.getElem?_set_ne (Ne.symm e')] at hi
   obtain⟨h1,cur,T,h2,h3⟩:=M.box i cs hi
   exact⟨h1,cur,T,h2,h3.ext E⟩
  ·have e':i≠id:=by rintro rfl;rw[List.getElem?_set_self hid] at hi;cases hi
   rw[List.getElem?_set_ne (Ne.symm e')] at hi
   obtain⟨h1,y,h2,h3⟩:=M.fbox i cs hi j u hj
   exact⟨.inl h1,y,h2,h3.keep E.A⟩
  ·have e':i≠id:=by rintro rfl;rw[List.getElem?_set_self hid] at hi;cases hi
   rw[List.getElem?_set_ne (Ne.symm e')] at hi
   exact M.iter i s p hi
  ·rcases hA with hA|⟨rfl,ho⟩
   ·obtain⟨h1,h2⟩:=M.imm b' o hA
    refine⟨h1,fun i hGi hs=>?_⟩
    obtain⟨et',sz',e,xs2,h3,h4⟩:=h2 i hGi hs
    by_cases e':i=id
    ·subst e'
     rw[h] at h3
     obtain⟨rfl,rfl,rfl,rfl,rfl⟩:et=et'∧sz=sz'∧fz=true∧ep=e∧xs=xs2:=by simpa using h3
     exact⟨et,sz,ep,xs,List.getElem?_set_self hid,h4⟩
    ·exact⟨et',sz',e,xs2,by rw[List.getElem?_set_ne (Ne.symm e')];exact h3,h4⟩
   ·refine⟨hb,fun i hGi _=>?_⟩
    have hGi:g.G b'=some i:=hGi
    rw[hG] at hGi
    obtain rfl:id=i:=by simpa using hGi
    exact⟨et,sz,ep,xs,List.getElem?_set_self hid,by omega⟩
  ·by_cases e':i=id
   ·subst e'
    rw[List.getElem?_set_self hid] at hi
    obtain⟨rfl,rfl,rfl,rfl,rfl⟩:et=et'∧sz=sz'∧true=fz2∧ep=e∧xs=xs2:=by simpa using hi
    exact M.roww _ _ _ _ _ _ h
   ·rw[List.getElem?_set_ne (Ne.symm e')] at hi;exact M.roww i et' sz' fz2 e xs2 hi
  ·obtain⟨i,et',sz',fz2,e,xs2,h3,h4⟩:=M.nsub b' hs
   by_cases e':i=id
   ·subst e'
    exact⟨i,_,_,_,_,_,h3,List.getElem?_set_self hid⟩
   ·exact⟨i,et',sz',fz2,e,xs2,h3,by rw[List.getElem?_set_ne (Ne.symm e')];exact h4⟩
 obtain⟨zs,ho,hG,hal,hw,hsub⟩:=hv
 rcases ho.2 with ⟨rfl,h0⟩|⟨b,cap,cur,rfl,h3,h4,h5,h6,h7,h8⟩
 ·have hys:ys=[]:=List.eq_nil_of_length_eq_zero h0
  subst hys
  -- nothing is frozen: some block,no cell
  have E:Mem w g (ob.set id (.row et sz true ep xs))∧Ext w g ob w g (ob.set id (.row et sz true ep xs))∧GhLe g g ob (ob.set id (.row et sz true ep xs)):=by
   have E:Ext w g ob w g (ob.set id (.row et sz true ep xs)):=by
    refine⟨fun b o h=>⟨h,rfl⟩,fun _ _=>rfl,fun i hi=>?_,fun i hi=>?_,fun i et' sz' fz2 e xs2 hi=>?_,fun _ _ _ _=>⟨rfl,fun _ _ h=>h⟩⟩
    ·have:i≠id:=by rintro rfl;rw[h] at hi;exact hi
     rw[List.getElem?_set_ne (Ne.symm this)];exact hi
    ·have:i≠id:=by rintro rfl;rw[h] at hi;exact hi
     rw[List.getElem?_set_ne (Ne.symm this)];exact hi
    ·by_cases e':i=id
     ·subst e'
      rw[h] at hi
      obtain⟨rfl,rfl,rfl,rfl,rfl⟩:et=et'∧sz=sz'∧fz=fz2∧ep=e∧xs=xs2:=by simpa using hi
      exact⟨true,ep,xs,List.getElem?_set_self hid,Nat.le_refl _,fun _=>⟨rfl,fun b hG=>⟨hG,rfl⟩⟩⟩
     ·exact⟨fz2,e,xs2,by rw[List.getElem?_set_ne (Ne.symm e')];exact hi,Nat.le_refl _,fun _=>⟨rfl,fun b hG=>⟨hG,rfl⟩⟩⟩
   refine⟨⟨fun i cs hi=>?_,fun i cs hi j u hj=>?_,fun i s p hi=>?_,fun b i hG=>⟨(M.own b i hG).1,by rw[List.length_set];exact (M.own b i hG).2⟩,fun b' o hA=>?_,fun i et' sz' fz2 e xs2 hi=>?_,fun b' hs=>?_,M.uniq⟩,E,⟨fun _ _ h=>.inl h,fun _ _ h=>h,rfl,by simp⟩⟩
   ·have e':i≠id:=by rintro rfl;rw[List.getElem?_set_self hid] at hi;cases hi
    rw[List.getElem?_set_ne (Ne.symm e')] at hi
    obtain⟨h1,cur,T,h2,h3⟩:=M.box i cs hi
    exact⟨h1,cur,T,h2,h3.ext E⟩
   ·have e':i≠id:=by rintro rfl;rw[List.getElem?_set_self hid] at hi;cases hi
    rw[List.getElem?_set_ne (Ne.symm e')] at hi
    exact M.fbox i cs hi j u hj
   ·have e':i≠id:=by rintro rfl;rw[List.getElem?_set_self hid] at hi;cases hi
    rw[List.getElem?_set_ne (Ne.symm e')] at hi
    exact M.iter i s p hi
   ·obtain⟨h1,h2⟩:=M.imm b' o hA
    refine⟨h1,fun i hGi hs=>?_⟩
    obtain⟨et',sz',e,xs2,h3,h4⟩:=h2 i hGi hs
    by_cases e':i=id
    ·subst e'
     rw[h] at h3
     obtain⟨rfl,rfl,rfl,rfl,rfl⟩:et=et'∧sz=sz'∧fz=true∧ep=e∧xs=xs2:=by simpa using h3
     exact⟨et,sz,ep,xs,List.getElem?_set_self hid,h4⟩
    ·exact⟨et',sz',e,xs2,by rw[List.getElem?_set_ne (Ne.symm e')];exact h3,h4⟩
   ·by_cases e':i=id
    ·subst e'
     rw[List.getElem?_set_self hid] at hi
     obtain⟨rfl,rfl,rfl,rfl,rfl⟩:et=et'∧sz=sz'∧true=fz2∧ep=e∧xs=xs2:=by simpa using hi
     exact M.roww _ _ _ _ _ _ h
    ·rw[List.getElem?_set_ne (Ne.symm e')] at hi;exact M.roww i et' sz' fz2 e xs2 hi
   ·obtain⟨i,et',sz',fz2,e,xs2,h3,h4⟩:=M.nsub b' hs
    by_cases e':i=id
    ·subst e'
     exact⟨i,_,_,_,_,_,h3,List.getElem?_set_self hid⟩
    ·exact⟨i,et',sz',fz2,e,xs2,h3,by rw[List.getElem?_set_ne (Ne.symm e')];exact h4⟩
  exact⟨g,E.1,E.2.1,PRel.nil _,E.2.2⟩
 ·have hb:b<w.heap.size:=(Array.getElem?_eq_some_iff.1 h4).1
  have hGb:=hG b rfl
  obtain⟨M',E',L'⟩:=key b (ys.length * sz) hGb (hsub.1 b rfl) hb (Nat.mul_le_mul_right _ hl)
  refine⟨_,M',E',?_,L'⟩
  have hal':=hal.keep E'.A
  have hfl:=Q2R ys hw
  have hzl:zs.length=ys.length * sz:=by rw[hal.1,hfl]
  refine PRel.slc b 0 cap sz ys (fun j=>zs.getD j undef) h5 h6 hw (fun j u hu=>?_) (fun j u hu=>?_)
  ·have hj:=Qb hu
   rw[hfl] at hj
   refine⟨.inr ⟨rfl,by omega⟩,?_⟩
   have:=ho.cells (g:=b) rfl j zs[j] (List.getElem?_eq_getElem (by omega))
   rw[Addr.add_mid,Nat.zero_add] at this
   rw[Nat.zero_add,this,List.getD_eq_getElem?_getD,List.getElem?_eq_getElem (by omega)];rfl
  ·have hj:=Qb hu
   rw[hfl] at hj
   have h9:zs[j]?=some (zs.getD j undef):=by rw[List.getD_eq_getElem?_getD,List.getElem?_eq_getElem (by omega)];rfl
   exact hal'.2 j _ u h9 hu
end
end Go.Proofs.YthbjpdijafccjaaGreat
namespace Go.Proofs.YthbjpdijafccjaaGreat
open Go.RowKit Go.Lib
section
variable {w:World} {g:Gh} {ob:List Ob}
def Gh.frzBox (g:Gh)(b n:Nat):Gh:=⟨fun b' o=>g.A b' o∨(b'=b∧o<n),fun b'=>if b'=b then none else g.G b',g.loc,g.sub⟩
theorem QdV (M:Mem w g ob){id:Nat}{cs us:List AV}(h:ob[id]?=some (.box cs))(hu:∀ (j:Nat) u,us[j]?=some u→∃ y,w.cell? ⟨g.loc id,j,none⟩=some y∧PRel w g.A y u) :
  ∃ g',Mem w g' (ob.set id (.fbox us))∧Ext w g ob w g' (ob.set id (.fbox us))∧GhLe g g' ob (ob.set id (.fbox us)) ∧
   ∀ (j:Nat) u,us[j]?=some u→g'.A (g.loc id) j∧∃ y,w.cell? ⟨g.loc id,j,none⟩=some y∧PRel w g'.A y u:=by
 have hid:=Qb h
 obtain⟨hG,cur,T,hh,hc⟩:=M.box id cs h
 have hb:=(M.own _ _ hG).1
 have ne:∀ {b i:Nat},g.G b=some i→i≠id→b≠g.loc id:=by
  rintro b i h1 h2 rfl
  rw[hG] at h1
  exact h2 (by simpa using h1.symm)
 have G':∀ {b i:Nat},g.G b=some i→i≠id→(g.frzBox (g.loc id) us.length).G b=some i:=fun h1 h2=>by simp only[Gh.frzBox];rw[if_neg (ne h1 h2)];exact h1
 have Gof:∀ {b i:Nat},(g.frzBox (g.loc id) us.length).G b=some i→g.G b=some i:=fun {b i} h1=>by
  have h1:(if b=g.loc id then none else g.G b)=some i:=h1
  split at h1
  ·cases h1
  ·exact h1
 have E:Ext w g ob w (g.frzBox (g.loc id) us.length) (ob.set id (.fbox us)):=by
  refine⟨fun b o h=>⟨.inl h,rfl⟩,fun _ _=>rfl,fun i hi=>?_,fun i hi=>?_,fun i et sz fz e xs hi=>?_,fun b i hGb hs=>⟨rfl,fun _ o h1=>h1.resolve_right fun h2=>?_⟩⟩
  rotate_right
  ·obtain⟨et,sz,fz,fz',e,xs,xs',h3,_⟩:=hs
   rw[h2.1,hG] at hGb
   obtain rfl:id=i:=by simpa using hGb
   rw[h] at h3;cases h3
  ·by_cases e:i=id
   ·subst e;rw[List.getElem?_set_self hid];trivial
   ·rw[List.getElem?_set_ne (Ne.symm e)];exact hi
  ·have:i≠id:=by rintro rfl;rw[h] at hi;exact hi
   rw[List.getElem?_set_ne (Ne.symm this)];exact hi
  ·have:i≠id:=by rintro rfl;rw[h] at hi;cases hi
   exact⟨fz,e,xs,by rw[List.getElem?_set_ne (Ne.symm this)];exact hi,Nat.le_refl _,fun _=>⟨rfl,fun b hGb=>⟨G' hGb this,rfl⟩⟩⟩
 have new:∀ (j:Nat) u,us[j]?=some u→(g.frzBox (g.loc id) us.length).A (g.loc id) j∧∃ y,w.cell? ⟨g.loc id,j,none⟩=some y∧PRel w (g.frzBox (g.loc id) us.length).A y u:=fun j u hj=>by
  obtain⟨y,h1,h2⟩:=hu j u hj
  exact⟨.inr ⟨rfl,Qb hj⟩,y,h1,h2.keep E.A⟩
 refine⟨_,⟨fun i c hi=>?_,fun i c hi j u hj=>?_,fun i s p hi=>?_,fun b i hGb=>?_,fun b o hA=>?_,fun i et sz fz e xs hi=>?_,fun b hs=>?_,fun b b' i h1 h2 hs hs'=>?_⟩,E,⟨fun b o hA=>?_,fun b i hGb=>?_,rfl,by simp⟩,new⟩
 ·have e':i≠id:=by rintro rfl;rw[List.getElem?_set_self hid] at hi;cases hi
  rw[List.getElem?_set_ne (Ne.symm e')] at hi
  obtain⟨h1,cur',T',h2,h3⟩:=M.box i c hi
  exact⟨G' h1 e',cur',T',h2,h3.ext E⟩
 ·by_cases e':i=id
  ·subst e'
   rw[List.getElem?_set_self hid] at hi
   obtain rfl:us=c:=by simpa using hi
   exact new j u hj
  ·rw[List.getElem?_set_ne (Ne.symm e')] at hi
   obtain⟨h1,y,h2,h3⟩:=M.fbox i c hi j u hj
   exact⟨.inl h1,y,h2,h3.keep E.A⟩
 ·have e':i≠id:=by rintro rfl;rw[List.getElem?_set_self hid] at hi;cases hi
  rw[List.getElem?_set_ne (Ne.symm e')] at hi
  obtain⟨h1,h2⟩:=M.iter i s p hi
  exact⟨G' h1 e',h2⟩
 ·simp only[Gh.frzBox] at hGb
  split at hGb
  ·cases hGb
  ·rw[List.length_set];exact M.own b i hGb
 ·rcases hA with hA|⟨rfl,ho⟩
  ·obtain⟨h1,h2⟩:=M.imm b o hA
   refine⟨h1,fun i hGi hs=>?_⟩
   have hne:=QaG M h hA
   simp only[Gh.frzBox] at hGi
   rw[if_neg hne] at hGi
   obtain⟨et,sz,e,xs,h3,h4⟩:=h2 i hGi hs
   have e':i≠id:=by rintro rfl;rw[h] at h3;cases h3
   exact⟨et,sz,e,xs,by rw[List.getElem?_set_ne (Ne.symm e')];exact h3,h4⟩
  ·refine⟨hb,fun i hGi _=>?_⟩
   simp only[Gh.frzBox,if_true] at hGi
   cases hGi
 ·have e':i≠id:=by rintro rfl;rw[List.getElem?_set_self hid] at hi;cases hi
  rw[List.getElem?_set_ne (Ne.symm e')] at hi
  exact M.roww i et sz fz e xs hi
 ·obtain⟨i,et,sz,fz,e,xs,h3,h4⟩:=M.nsub b hs
  have e':i≠id:=by rintro rfl;rw[h] at h4;cases h4
  exact⟨i,et,sz,fz,e,xs,G' h3 e',by rw[List.getElem?_set_ne (Ne.symm e')];exact h4⟩
 ·exact M.uniq b b' i (Gof h1) (Gof h2) hs hs'
 ·rcases hA with hA|⟨rfl,_⟩
  ·exact .inl hA
  ·exact .inr ⟨id,hG⟩
 ·simp only[Gh.frzBox] at hGb
  split at hGb
  ·cases hGb
  ·exact hGb
def Qlh (keep:Bool)(n:Nat):Prop:=∀ (w:World) (g:Gh) (ob:List Ob) (v:Value) (x y:AV) (ob':List Ob),Mem w g ob→ARel0 w g ob v x→v.oneCell'=true→frz std keep n ob x=some (y,ob') →
 ∃ g',Mem w g' ob'∧Ext w g ob w g' ob'∧ARel0 w g' ob' v y∧GhLe g g' ob ob'∧(keep=false→PRel w g'.A v y)
theorem Q73 {keep:Bool}{n:Nat}(hn:Qlh keep n):∀ (cs:List AV) (vs:List Value) (w:World) (g:Gh) (ob:List Ob) (us:List AV) (ob':List Ob),Mem w g ob→ARelC w g ob vs cs→Q49 (frz std keep n) ob cs=some (us,ob') →
  ∃ g',Mem w g' ob'∧Ext w g ob w g' ob'∧ARelC w g' ob' vs us∧GhLe g g' ob ob'∧(keep=false→∀ (j:Nat) y u,vs[j]?=some y→us[j]?=some u→PRel w g'.A y u)
 | [],vs,w,g,ob,us,ob',M,h,he=>by
  obtain⟨rfl,rfl⟩:[]=us∧ob=ob':=by simpa[Q49] using he
  have hvs:vs=[]:=List.eq_nil_of_length_eq_zero h.1
  subst hvs
  exact⟨g,M,Ext.refl,h,GhLe.refl,fun _ j y u h=>by simp at h⟩
 |x::xs,vs,w,g,ob,us,ob',M,h,he=>by
  cases vs with
  |nil=>exact absurd h.1 (by simp)
  |cons v vs =>
   simp only[Q49] at he
   split at he
   ·rename_i y ob1 h1
    split at he
    ·rename_i ys ob2 h2
     obtain⟨rfl,rfl⟩:y::ys=us∧ob2=ob':=by simpa using he
     have hv:=h.2 0 v x rfl rfl
     obtain⟨g1,M1,E1,R1,L1,P1⟩:=hn w g ob v x y ob1 M hv.1 hv.2 h1
     have hr:ARelC w g1 ob1 vs xs:=⟨by simpa using h.1,fun j y u hy hu=>⟨(h.2 (j+1) y u (by simpa using hy) (by simpa using hu)).1.ext E1,(h.2 (j+1) y u (by simpa using hy) (by simpa using hu)).2⟩⟩
     obtain⟨g2,M2,E2,R2,L2,P2⟩:=Q73 hn xs vs w g1 ob1 ys ob2 M1 hr h2
     refine⟨g2,M2,E1.trans E2 (by rw[L1.len];exact Nat.le_refl _),⟨by simp[R2.1],fun j y' u hy hu=>?_⟩,L1.trans L2,fun hk j y' u hy hu=>?_⟩
     ·cases j with
      |zero =>
       obtain rfl:v=y':=by simpa using hy
       obtain rfl:y=u:=by simpa using hu
       exact⟨R1.ext E2,hv.2⟩
      |succ j=>exact R2.2 j y' u (by simpa using hy) (by simpa using hu)
     ·cases j with
      |zero =>
       obtain rfl:v=y':=by simpa using hy
       obtain rfl:y=u:=by simpa using hu
       exact (P1 hk).keep E2.A
      |succ j=>exact P2 hk j y' u (by simpa using hy) (by simpa using hu)
    ·cases he
   ·cases he
theorem QdM (keep:Bool):∀ n,Qlh keep n
 |0=>fun w g ob v x y ob' M h ho he=>by simp[frz] at he
 |n+1=>fun w g ob v x y ob' M h ho he=>by
  have ih:=QdM keep n
  cases x with
  |val a =>
   obtain⟨rfl,rfl⟩:AV.val a=y∧ob=ob':=by simpa[frz] using he
   exact⟨g,M,Ext.refl,h,GhLe.refl,fun _=>h⟩
  |kb t =>
   obtain⟨rfl,rfl⟩:AV.val (.bool t)=y∧ob=ob':=by simpa[frz] using he
   obtain rfl:v=.bool t:=h
   exact⟨g,M,Ext.refl,PRel.val _ rfl,GhLe.refl,fun _=>PRel.val _ rfl⟩
  |slc a b =>
   obtain⟨rfl,rfl⟩:AV.slc a b=y∧ob=ob':=by simpa[frz] using he
   exact⟨g,M,Ext.refl,h,GhLe.refl,fun _=>h⟩
  |opt a =>
   obtain⟨rfl,rfl⟩:AV.opt a=y∧ob=ob':=by simpa[frz] using he
   exact⟨g,M,Ext.refl,h,GhLe.refl,fun _=>h⟩
  |ref a =>
   obtain⟨rfl,rfl⟩:AV.ref a=y∧ob=ob':=by simpa[frz] using he
   exact⟨g,M,Ext.refl,h,GhLe.refl,fun _=>h⟩
  |agg cs=>exact h.elim
  |tup cs=>exact h.elim
  |dead=>simp[frz] at he
  |rptr a b c d=>simp[frz] at he
  |iter a=>simp[frz] at he
  |row id ep =>
   obtain⟨_,et,sz,fz,e,xs,h1,h2,h3⟩:=h
   simp only[frz,h1] at he
   split at he
   ·rename_i hep
    obtain⟨rfl,rfl⟩:AV.slc sz xs=y∧ob.set id (.row et sz true e xs)=ob':=by simpa using he
    obtain⟨g',M',E',R',L'⟩:=Q71 M h1 (h3 hep) (Nat.le_refl _)
    exact⟨g',M',E',R'.to0,L',fun _=>R'⟩
   ·cases he
  |rowk id ep k =>
   obtain⟨_,et,sz,fz,e,xs,h1,h2,h3⟩:=h
   simp only[frz,h1] at he
   split at he
   ·rename_i hep
    have hcut:std.cut xs 0 k=xs.take k.toNat:=by simp[std]
    rw[hcut] at he
    obtain⟨rfl,rfl⟩:AV.slc sz (xs.take k.toNat)=y∧ob.set id (.row et sz true e xs)=ob':=by simpa using he
    obtain⟨g',M',E',R',L'⟩:=Q71 M h1 (h3 hep).2.2 (by rw[List.length_take];omega)
    exact⟨g',M',E',R'.to0,L',fun _=>R'⟩
   ·cases he
  |box id off =>
   simp only[frz] at he
   cases keep with
   |true =>
    obtain⟨rfl,rfl⟩:AV.box id off=y∧ob=ob':=by simpa using he
    exact⟨g,M,Ext.refl,h,GhLe.refl,fun hk=>by cases hk⟩
   |false =>
    simp only[Bool.false_eq_true,if_false] at he
    obtain⟨rfl,_⟩:=h
    split at he
    ·rename_i cs hb
     obtain⟨hG,cur,T,hh,hc⟩:=M.box id cs hb
     split at he
     ·rename_i us ob1 hes
      obtain⟨g1,M1,E1,R1,L1,P1⟩:=Q73 ih cs cur.toList w g ob us ob1 M hc hes
      split at he
      ·rename_i c1 hb1
       obtain⟨rfl,rfl⟩:AV.ref (us.drop off)=y∧ob1.set id (.fbox us)=ob':=by simpa using he
       have hul:us.length=cs.length:=by rw[←R1.1,hc.1]
       have hcell:∀ (j:Nat) u,us[j]?=some u→∃ y,w.cell? ⟨g1.loc id,j,none⟩=some y∧PRel w g1.A y u:=fun j u hj=>by
        have hjl:j<cur.size:=by have:=Qb hj;rw[←R1.1] at this;simpa using this
        refine⟨cur[j],by rw[L1.loc];simp[World.cell?,hh,hjl],P1 rfl j _ u (by simp[hjl]) hj⟩
       obtain⟨g2,M2,E2,L2,N2⟩:=QdV M1 hb1 hcell
       have R:PRel w g2.A (.pointer (some ⟨g.loc id,off,none⟩)) (.ref (us.drop off)):=by
        have e1:g1.loc id=g.loc id:=by rw[L1.loc]
        refine PRel.ref _ _ _ (fun j=>cur.getD (off+j) undef) (fun j u hj=>?_) (fun j u hj=>?_)
        ·rw[List.getElem?_drop] at hj
         obtain⟨h4,y,h5,h6⟩:=N2 _ u hj
         rw[e1] at h4 h5
         have hjl:off+j<cur.size:=by have:=Qb hj;rw[←R1.1] at this;simpa using this
         refine⟨h4,?_⟩
         simp[World.cell?,hh,hjl]
        ·rw[List.getElem?_drop] at hj
         obtain⟨h4,y,h5,h6⟩:=N2 _ u hj
         rw[e1] at h5
         have hjl:off+j<cur.size:=by have:=Qb hj;rw[←R1.1] at this;simpa using this
         have h7:cur.getD (off+j) undef=y:=by
          simp only[World.cell?,hh,Option.isSome_none,Bool.false_eq_true,if_false,Array.getElem?_eq_getElem hjl,Option.some.injEq] at h5
          rw[Array.getD_eq_getD_getElem?,Array.getElem?_eq_getElem hjl]
          exact h5
         rw[h7];exact h6
       exact⟨g2,M2,E1.trans E2 (by rw[L1.len];exact Nat.le_refl _),R.to0,L1.trans L2,fun _=>R⟩
      ·cases he
     ·cases he
    ·rename_i cs hb
     obtain⟨rfl,rfl⟩:AV.ref (cs.drop off)=y∧ob=ob':=by simpa using he
     have R:PRel w g.A (.pointer (some ⟨g.loc id,off,none⟩)) (.ref (cs.drop off)):=by
      obtain⟨l,h1,h2⟩:=Q8R (q:=fun j y=>∀ u,(cs.drop off)[j]?=some u→g.A (g.loc id) (off+j)∧w.cell? ⟨g.loc id,off+j,none⟩=some y∧PRel w g.A y u) (cs.drop off).length (fun j hj=>by
       have hj2:=List.getElem?_eq_getElem hj
       have hj3:=hj2
       rw[List.getElem?_drop] at hj3
       obtain⟨h4,y,h5,h6⟩:=M.fbox id cs hb _ _ hj3
       exact⟨y,fun u hu=>by rw[hj2] at hu;cases hu;exact⟨h4,h5,h6⟩⟩)
      have hget:∀ (j:Nat) u,(cs.drop off)[j]?=some u→l[j]?=some (l.getD j undef):=fun j u hu=>by
       have:=Qb hu
       rw[List.getD_eq_getElem?_getD,List.getElem?_eq_getElem (by omega)];rfl
      exact PRel.ref _ _ _ (fun j=>l.getD j undef) (fun j u hu=>⟨(h2 j _ (hget j u hu) u hu).1,(h2 j _ (hget j u hu) u hu).2.1⟩) (fun j u hu=>(h2 j _ (hget j u hu) u hu).2.2)
     exact⟨g,M,Ext.refl,R.to0,GhLe.refl,fun _=>R⟩
    ·cases he
end
end Go.Proofs.YthbjpdijafccjaaGreat
namespace Go.Proofs.YthbjpdijafccjaaGreat
open Go.RowKit Go.Lib
section
variable {w w':World} {g g':Gh} {ob ob':List Ob}
theorem Qmf {keep:Bool}{n:Nat}{v:Value}{x y:AV}(M:Mem w g ob)(h:ARel1 w g ob v x)(hl:x.live=true)(he:frz std keep n ob x=some (y,ob')) :
  ∃ g',Mem w g' ob'∧Ext w g ob w g' ob'∧ARel1 w g' ob' v y∧GhLe g g' ob ob':=by
 have go:∀ {x:AV},ARel0 w g ob v x→x.live=true→frz std keep n ob x=some (y,ob')→∃ g',Mem w g' ob'∧Ext w g ob w g' ob'∧ARel1 w g' ob' v y∧GhLe g g' ob ob':=fun h hl he=>by
  obtain⟨g',h1,h2,h3,h4,_⟩:=QdM keep n w g ob v _ y ob' M h (h.one hl) he
  exact⟨g',h1,h2,h3.to1,h4⟩
 cases x with
 |agg cs =>
  obtain⟨vs,rfl,hc⟩:=h
  cases n with
  |zero=>simp[frz] at he
  |succ n =>
   simp only[frz] at he
   obtain⟨⟨us,ob1⟩,h1,h2⟩:=Option.map_eq_some_iff.1 he
   obtain⟨rfl,rfl⟩:AV.agg us=y∧ob1=ob':=by simpa using h2
   obtain⟨g',M',E',R',L',_⟩:=Q73 (QdM keep n) cs vs.toList w g ob us ob1 M hc h1
   exact⟨g',M',E',⟨vs,rfl,R'⟩,L'⟩
 |val a=>exact go (x:=.val a) h hl he
 |slc a b=>exact go (x:=.slc a b) h hl he
 |ref a=>exact go (x:=.ref a) h hl he
 |opt a=>exact go (x:=.opt a) h hl he
 |tup a=>cases hl
 |box a b=>exact go (x:=.box a b) h hl he
 |row a b=>exact go (x:=.row a b) h hl he
 |rowk a b c=>exact go (x:=.rowk a b c) h hl he
 |rptr a b c d=>exact go (x:=.rptr a b c d) h hl he
 |kb a=>exact go (x:=.kb a) h hl he
 |iter a=>exact go (x:=.iter a) h hl he
 |dead=>cases hl
def Q3E (w:World)(g:Gh)(ob:List Ob)(vs:List Value)(xs:List AV):Prop:=vs.length=xs.length∧∀ (j:Nat) v x,vs[j]?=some v→xs[j]?=some x→ARel1 w g ob v x
theorem Q7R {keep:Bool}{n:Nat}{x y:AV}(he:frz std keep n ob x=some (y,ob')):x.live=true:=by
 cases n with
 |zero=>simp[frz] at he
 |succ n=>cases x<;>first|rfl|(simp[frz] at he;done)
theorem ARel.to1 {v:Value}{x:AV}(h:ARel w g ob v x)(hl:x.live=true):ARel1 w g ob v x:=by cases x<;>first|exact h|cases hl
theorem Q6x {keep:Bool}{n:Nat}:∀ (xs:List AV) (ob:List Ob) (ys:List AV) (ob':List Ob),Q49 (frz std keep n) ob xs=some (ys,ob')→∀ x∈xs,x.live=true
 | [],_,_,_,_=>fun x h=>by cases h
 |x::xs,ob,ys,ob',he=>by
  simp only[Q49] at he
  split at he
  ·rename_i y ob1 h1
   split at he
   ·rename_i ys' ob2 h2
    intro z hz
    cases hz with
    |head=>exact Q7R h1
    |tail _ hz=>exact Q6x xs ob1 ys' ob2 h2 z hz
   ·cases he
  ·cases he
theorem QkH {keep:Bool}{n:Nat}:∀ (xs:List AV) (vs:List Value) (g:Gh) (ob:List Ob) (ys:List AV) (ob':List Ob),Mem w g ob→Q3E w g ob vs xs→Q49 (frz std keep n) ob xs=some (ys,ob') →
  ∃ g',Mem w g' ob'∧Ext w g ob w g' ob'∧Q3E w g' ob' vs ys∧GhLe g g' ob ob'
 | [],vs,g,ob,ys,ob',M,h,he=>by
  obtain⟨rfl,rfl⟩:[]=ys∧ob=ob':=by simpa[Q49] using he
  exact⟨g,M,Ext.refl,h,GhLe.refl⟩
 |x::xs,vs,g,ob,ys,ob',M,h,he=>by
  cases vs with
  |nil=>exact absurd h.1 (by simp)
  |cons v vs =>
   simp only[Q49] at he
   split at he
   ·rename_i y ob1 h1
    split at he
    ·rename_i ys' ob2 h2
     obtain⟨rfl,rfl⟩:y::ys'=ys∧ob2=ob':=by simpa using he
     have hv:=h.2 0 v x rfl rfl
     have hl:x.live=true:=Q7R h1
     obtain⟨g1,M1,E1,R1,L1⟩:=Qmf M hv hl h1
     have hr:Q3E w g1 ob1 vs xs:=⟨by simpa using h.1,fun j y u hy hu=>(h.2 (j+1) y u (by simpa using hy) (by simpa using hu)).ext E1⟩
     obtain⟨g2,M2,E2,R2,L2⟩:=QkH xs vs g1 ob1 ys' ob2 M1 hr h2
     refine⟨g2,M2,E1.trans E2 (by rw[L1.len];exact Nat.le_refl _),⟨by simp[R2.1],fun j y' u hy hu=>?_⟩,L1.trans L2⟩
     cases j with
     |zero =>
      obtain rfl:v=y':=by simpa using hy
      obtain rfl:y=u:=by simpa using hu
      exact R1.ext E2
     |succ j=>exact R2.2 j y' u (by simpa using hy) (by simpa using hu)
    ·cases he
   ·cases he
theorem QhR {keep:Bool}{n:Nat}{v:Value}{x y:AV}(M:Mem w g ob)(h:ARel w g ob v x)(he:frz std keep n ob x=some (y,ob')) :
  ∃ g',Mem w g' ob'∧Ext w g ob w g' ob'∧ARel w g' ob' v y∧GhLe g g' ob ob':=by
 obtain⟨g',h1,h2,h3,h4⟩:=Qmf M (h.to1 (Q7R he)) (Q7R he) he
 exact⟨g',h1,h2,h3.to,h4⟩
structure Step (w:World) (g:Gh) (ob:List Ob) (w':World) (g':Gh) (ob':List Ob):Prop where
 os:w'.os=w.os
 tape:w'.tape=w.tape
 output:w'.output=w.output
 size:w.heap.size≤w'.heap.size
 keep:∀ b,b<w.heap.size→g.G b=none→w'.heap[b]?=w.heap[b]?
 own:∀ b id,g'.G b=some id→(∃ id',g.G b=some id')∨w.heap.size≤b
 imm:∀ b o,g'.A b o→g.A b o∨(∃ id,g.G b=some id)∨w.heap.size≤b
 ext:Ext w g ob w' g' ob'
 len:ob.length≤ob'.length
theorem Step.refl:Step w g ob w g ob:=⟨rfl,rfl,rfl,Nat.le_refl _,fun _ _ _=>rfl,fun _ _ h=>.inl ⟨_,h⟩,fun _ _ h=>.inl h,Ext.refl,Nat.le_refl _⟩
theorem Step.trans {w1 w2 w3:World}{g1 g2 g3:Gh}{o1 o2 o3:List Ob}(h:Step w1 g1 o1 w2 g2 o2)(k:Step w2 g2 o2 w3 g3 o3):Step w1 g1 o1 w3 g3 o3:=by
 have none2:∀ b,b<w1.heap.size→g1.G b=none→g2.G b=none:=fun b hb hG=>by
  cases h2:g2.G b with
  |none=>rfl
  |some id =>
   rcases h.own b id h2 with ⟨id',h3⟩|h3
   ·rw[hG] at h3;cases h3
   ·omega
 refine⟨k.os.trans h.os,k.tape.trans h.tape,k.output.trans h.output,Nat.le_trans h.size k.size,fun b hb hG=>?_,fun b id hG=>?_,fun b o hA=>?_,h.ext.trans k.ext h.len,Nat.le_trans h.len k.len⟩
 ·exact (k.keep b (Nat.lt_of_lt_of_le hb h.size) (none2 b hb hG)).trans (h.keep b hb hG)
 ·rcases k.own b id hG with ⟨id',h2⟩|h2
  ·exact h.own b id' h2
  ·exact .inr (Nat.le_trans h.size h2)
 ·rcases k.imm b o hA with h2|⟨id,h2⟩|h2
  ·exact h.imm b o h2
  ·rcases h.own b id h2 with h3|h3
   ·exact .inr (.inl h3)
   ·exact .inr (.inr h3)
  ·exact .inr (.inr (Nat.le_trans h.size h2))
theorem Step.ghost (E:Ext w g ob w g' ob')(L:GhLe g g' ob ob'):Step w g ob w g' ob' :=
 ⟨rfl,rfl,rfl,Nat.le_refl _,fun _ _ _=>rfl,fun b id h=>.inl ⟨id,L.G b id h⟩,fun b o h=>(L.A b o h).imp_right .inl,E,by rw[L.len];exact Nat.le_refl _⟩
def BCall (P:Program)(f:Nat)(args:List AV)(ob:List Ob)(res:AV)(ob':List Ob):Prop :=
 (∀ vs w,(callFunc f vs).run P w=.ok (.enter f vs) w) ∧
 ∀ (w:World) (g:Gh) (vs:List Value),Mem w g ob→Q3E w g ob vs args →
  Calls P f vs.toArray w fun e w'=>∃ v g',e=.returned v∧Mem w' g' ob'∧ARel w' g' ob' v res∧Step w g ob w' g' ob'
structure Sim (w0:World) (g0:Gh) (o0:List Ob) (N:Nat) (s:St) (a:Act) (w:World):Prop where
 defers:a.defers=[]
 size:a.tmps.size=N
 rel:∃ g,Mem w g s.ob∧Q1s w g s a∧Step w0 g0 o0 w g s.ob
def Ex.conv:Ex→Exit
 |.normal=>.normal
 |.exit i=>.exit i
 |.ret=>.ret
def WP (P:Program)(w0:World)(g0:Gh)(o0:List Ob)(N:Nat)(c:Code)(Q:Ex→St→Prop)(s:St):Prop :=
 ∀ a w,Sim w0 g0 o0 N s a w→c.wp P (fun e a' w'=>∃ e' s',e=e'.conv∧Sim w0 g0 o0 N s' a' w'∧Q e' s') a w
def Q4a:Value→Option Srt
 |.int k _=>some (.int k)
 |.bool _=>some .boo
 |.string _=>some .str
 |_=>none
def eqV:Value→Value→Bool
 |.int _ a,.int _ b=>a == b
 |.bool a,.bool b=>a == b
 |.string a,.string b=>a.toList == b.toList
 |_,_=>false
def EqOk (P:Program)(T:Nat)(sh:List Srt):Prop:=∀ (xs ys:List Value) (x y:Operand) (W:World),xs.map Q4a=sh.map some→ys.map Q4a=sh.map some →
 (eqGuard .eql T x y (.agg xs.toArray) (.agg ys.toArray)).run P W=.ok () W∧(eqGuard .neq T x y (.agg xs.toArray) (.agg ys.toArray)).run P W=.ok () W ∧
 (binOp .eql T (.agg xs.toArray) (.agg ys.toArray)).run P W=.ok (.bool ((xs.zip ys).all fun q=>eqV q.1 q.2)) W ∧
 (binOp .neq T (.agg xs.toArray) (.agg ys.toArray)).run P W=.ok (.bool !((xs.zip ys).all fun q=>eqV q.1 q.2)) W
def Tree.ok (P:Program)(w0:World)(g0:Gh)(o0:List Ob)(N:Nat)(Q:Ex→St→Prop):Tree→Prop
 |.leaf e s=>Q e s
 |.br c t f=>(c=true→t.ok P w0 g0 o0 N Q)∧(c=false→f.ok P w0 g0 o0 N Q)
 |.need q t=>q∧t.ok P w0 g0 o0 N Q
 |.call f args ob res ob' t=>BCall P f args ob res ob'∧t.ok P w0 g0 o0 N Q
 |.loop body s K=>WP P w0 g0 o0 N (.loop body) (fun e s'=>(K e s').ok P w0 g0 o0 N Q) s
 |.both a b=>a.ok P w0 g0 o0 N Q∧b.ok P w0 g0 o0 N Q
 |.either q a b=>(q→a.ok P w0 g0 o0 N Q)∧b.ok P w0 g0 o0 N Q
 |.ask T sh t=>EqOk P T sh∧t.ok P w0 g0 o0 N Q
 |.stuck _=>False
end
end Go.Proofs.YthbjpdijafccjaaGreat
