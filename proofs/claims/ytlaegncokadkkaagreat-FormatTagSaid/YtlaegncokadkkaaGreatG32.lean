/- Lemmas, conditions told -/
import Derived.Test.YtlaegncokadkkaaGreatG29
import Derived.Test.YtlaegncokadkkaaGreatG31
set_option maxRecDepth 99999
set_option maxHeartbeats 0
set_option linter.unusedSimpArgs false
set_option linter.unusedVariables false
namespace Go.Proofs.YtlaegncokadkkaaGreat
open Lib(hid)
open Go.RowKit Go.Lib
section
open Tryz
theorem Qeg(S T:Nat->Prop)(A B:Option Addr)(n c m d:Nat)(l k:List Int)(w:World)(hr:Rd w S 1 A n c (rc l))(ht:Rd w T 1 B m d (rc k)) :
  Calls prog 4 #[.slice A n c,.slice B m d] w fun e w'=>e=.returned (.bool (l == k))/\Below w.heap.size w w':=by
 have hl:n=l.length:=by have:=hr.len;simpa using this.symm
 have hk:m=k.length:=by have:=ht.len;simpa using this.symm
 have hle:=hr.le;have hmx:c<=9223372036854775807:=hr.max;have hle2:=ht.le;have hmx2:d<=9223372036854775807:=ht.max;subst hl hk;by_cases hne:l.length=k.length
 ·have HR:=hid hr
  have HT:=hid ht;have hd:((l.length:Int) != (k.length:Int))=false:=by simp[hne]
  have hd2:(l.length != k.length)=false:=by simp[hne]
  have HE:=hid hne;have h1:l.length<=k.length:=by omega
  have h2:k.length<=l.length:=by omega
  clear hr ht hne;go_enter func4,ntmps4
  go_wp2
  go_loopw [13] (fun i wr=>∃(j:Nat),j<=l.length/\i=.int .i64 j/\Hid (l.take j=k.take j)/\Hid (Below w.heap.size w wr)) (fun i _=>l.length-(_root_.Go.RowKit.intOf i).toNat)
  case atStart=>exact⟨0,Nat.zero_le _,rfl,rfl,Below.refl _ _⟩
  case round =>
   obtain⟨j,hj,rfl,HS,HB⟩:=hrel;by_cases hlt:j<l.length
   ·obtain⟨b,o,u,rfl,_,hu,hc⟩:=(HR.out.below HB.out).one hlt
    obtain⟨hjm,rfl⟩:=Qcw hu;obtain⟨b2,o2,u2,rfl,_,hu2,hc2⟩:=(HT.out.below HB.out).one (k:=j) (by omega)
    obtain⟨hjm2,rfl⟩:=Qcw hu2;clear hu hu2;have hjk:(j:Int)<(k.length:Int):=by omega
    have hjl:(j:Int)<(l.length:Int):=by omega
    have HX:Hid (∃h1 h2,l[j]'h1=l[j]/\k[j]'h2=k[j]):=⟨hlt,hjm2,rfl,rfl⟩;generalize e1:l[j]=x at hc;generalize e2:k[j]=y at hc2;have E1:=hid e1;have E2:=hid e2;clear e1 e2 HX;by_cases hxy:x=y;rotate_left
    ·have hb:(x != y)=true:=by simpa using hxy
     have HX:=hid hxy;clear hxy;go_wp2
     go_quiet (fail)
     go_wp2
     go_ret
     refine⟨Qw ?_,QV HB.out _⟩;rw[eq_comm,beq_eq_false_iff_ne];rintro rfl;exact HX.out (E1.out.symm.trans E2.out)
    ·have hb:(x != y)=false:=by simpa using hxy
     have HX:=hid hxy;clear hxy;go_wp2
     go_quiet (fail)
     go_wp2
     go_roundw
     case rel =>
      refine⟨j+1,by omega,by go_num,?_,QV HB.out _⟩
      rw[Hid,List.take_succ_eq_append_getElem hjm,List.take_succ_eq_append_getElem hjm2,HS.out,E1.out,E2.out,HX.out]
     case measure=>simp[_root_.Go.RowKit.intOf];omega
   ·have hjl:¬(j:Int)<(l.length:Int):=by omega
    have e:l.take j=l:=List.take_of_length_le (by omega)
    rw[e]at HS;have e2:k.take j=k:=List.take_of_length_le (by omega)
    rw[e2]at HS;clear e e2;go_wp2
    go_ret
    exact⟨Qw (by rw[HS.out];simp),HB.out⟩
 ·have hd:((l.length:Int) != (k.length:Int))=true:=by rw[bne_iff_ne];omega
  have hd2:(l.length != k.length)=true:=by simpa using hne
  have HE:=hid hne;clear hne hr ht;go_enter func4,ntmps4
  go_wp2
  go_ret
  exact⟨Qw (by rw[eq_comm,beq_eq_false_iff_ne];rintro rfl;exact HE.out rfl),Below.refl _ _⟩
theorem QhU(l k:List Int):BCall prog 4 [.slc 1 (Q0 l),.slc 1 (Q0 k)] [] (.val (.bool (l == k))) []:=by
 refine BCall.hand (enters_of func4 (by kernel_rfl) rfl) fun w g vs M hL=>?_
 obtain⟨v1,vs1,rfl,h1,hL⟩:=Qt hL;obtain⟨v2,vs2,rfl,h2,hL⟩:=Qt hL;obtain rfl:=Q1i hL;obtain⟨A,c,rfl,hr⟩:=Q26 h1 M;obtain⟨B,d,rfl,hs⟩:=Q26 h2 M;exact(Qeg _ _ A B _ c _ d l k w hr hs).mono fun e w' ⟨h,hb⟩=>⟨_,h,hb,.val _ rfl⟩
theorem Qji(c:Cf):BCall prog 6 [c.av] [] c.av []:=by
 obtain⟨i,w,q,e,n,tabs,wrap⟩:=c;unfold Cf.av;refine fnN (cs0) func6 rfl fun _ _=>?_
 with_reducible refine cv0 ?_
 exact .pure rfl ⟨.inl rfl,.inl rfl,.inl rfl,.inl rfl,.inl rfl,.inl rfl,.inl rfl,trivial⟩
def QnT(C:List AV)(T:List AV):Nat->List AV->List Ob->Option (AV×List Ob):=fun f args _=>match f,args with
 |6,[_]=>some (.agg C,[])
 |5,[_,_,_,_]=>some (.slc 1 T,[])
 |7,[_,_,_,_]=>some (.slc 1 T,[])
 |4,[_,_]=>some (.val (.bool true),[])
 |8,[]=>some (.val (.bool true),[])
 |_,_=>none
def ftO:Nat->OT:=fun id=>match id with
 |3=>.of [0,2,3,4,6,7,8,9,1,5,10,11,12,13,14,15]
 |_=>.nil
theorem QcY(c:Cf)(l:List Int)(hu:Un l)(d:Int)(hd:-9223372036854775808<=d)(p:Bool) :
  BCall prog 3 [c.av,.slc 1 (Q0 l),.val (.int .i64 d),.val (.bool p)] [] (.val (.bool true)) []:=by
 have key:∀x:List Int,x.length<=200->Un x->BCall prog 5 [c.av,.slc 1 (Q0 x),.val (.int .i64 d),.val (.bool p)] [] (.slc 1 (Q0 (Q3j c x d p))) []/\BCall prog 7 [c.av,.slc 1 (Q0 x),.val (.int .i64 d),.val (.bool p)] [] (.slc 1 (Q0 (Q3j c x d p))) []:=fun x hx hux =>
  ⟨QnN c x hx d hd p,Qno c x hx hux d hd p⟩
 have cO:=Qji c;have cA:=Qh9;have cS:=fun x:List Int=>QhU x x
 simp only[beq_self_eq_true]at cS;obtain⟨i,w,q,e,n,tabs,wrap⟩:=c;by_cases hn:l.length<=200
 ·obtain⟨cT,cR⟩:=key l hn hu
  have cS:=cS (Q3j ⟨i,w,q,e,n,tabs,wrap⟩ l d p);unfold Cf.av at cO cT cR ⊢;obtain⟨T,hT⟩:=exq (Q0 (Q3j ⟨i,w,q,e,n,tabs,wrap⟩ l d p));rw[<-hT]at cT cR cS;clear hT key;refine fnO false (QnT [.val (.int .i64 i),.val (.int .i64 w),.val (.int .i64 q),.val (.int .i64 e),.val (.int .i64 n),.val (.bool tabs),.val (.bool wrap)] T) ftO func3 rfl fun _ _=>?_
  with_reducible refine cv1 (Q0 l) ?_
  refine⟨fun hb=>?_,fun _=>?_⟩
  ·exfalso
   have hb:decide (200<((Q0 l).length:Int))=true:=hb;rw[Q6,decide_eq_true_eq]at hb;omega
  ·exact⟨cO,cT,cR,cS,cA,.pure rfl (.inl rfl)⟩
 ·obtain⟨cT,cR⟩:=key (l.take 200) (by rw[List.length_take];omega) fun x hx=>hu x (List.mem_of_mem_take hx)
  have hcK:(std.cutok 0 200 (std.len (Q0 l))).q:=by
   show(0:Int)<=0/\(0:Int)<=200/\200<=((Q0 l).length:Int)
   rw[Q6];omega
  have hcut:std.cut (Q0 l) 0 200=Q0 (l.take 200):=Q1I l 0 200;have cS:=cS (Q3j ⟨i,w,q,e,n,tabs,wrap⟩ (l.take 200) d p);rw[<-hcut]at cT cR;unfold Cf.av at cO cT cR ⊢;obtain⟨T,hT⟩:=exq (Q0 (Q3j ⟨i,w,q,e,n,tabs,wrap⟩ (l.take 200) d p));rw[<-hT]at cT cR cS;clear hT key;refine fnO false (QnT [.val (.int .i64 i),.val (.int .i64 w),.val (.int .i64 q),.val (.int .i64 e),.val (.int .i64 n),.val (.bool tabs),.val (.bool wrap)] T) ftO func3 rfl fun _ _=>?_
  with_reducible refine cv1 (Q0 l) ?_
  refine⟨fun _=>?_,fun hb=>?_⟩
  ·first
    |exact⟨hcK,cO,cT,cR,cS,cA,.pure rfl (.inl rfl)⟩
    |exact⟨cO,cT,cR,cS,cA,.pure rfl (.inl rfl)⟩
  ·exfalso
   have hb:decide (200<((Q0 l).length:Int))=false:=hb;rw[Q6,decide_eq_false_iff_not]at hb;omega
theorem QlS{w:World}{a:Option Addr}{len cap:Nat}{zs:List Int}(h:IsRowS .i32 w a len cap zs):I32 (zs.take len):=fun x hx=>by
 rcases h with ⟨_,_,_,rfl⟩|⟨_,_,_,_,_,_,hwf⟩
 ·simp at hx
 ·have h:=hwf x (List.mem_of_mem_take hx)
  simp only[Lit.wf,Bool.and_eq_true,decide_eq_true_eq]at h;exact h
def Cf.vs(c:Cf):Array Value:=#[.int .i64 c.i,.int .i64 c.w,.int .i64 c.q,.int .i64 c.e,.int .i64 c.n,.bool c.tabs,.bool c.wrap]
theorem Qn4{W:World}{r:Reach}{base:Nat}{x:Value}(h:Cell.okWide prog W r base 3 x):∃n:Int,x=.int .i64 n:=by
 simp only[Cell.okWide,Cell.ok,underlying3]at h;cases x<;>simp only[]at h
 obtain⟨rfl,_⟩:=h;exact⟨_,rfl⟩
theorem QkX{W:World}{r:Reach}{base:Nat}{x:Value}(h:Cell.okWide prog W r base 4 x):∃b:Bool,x=.bool b:=by
 simp only[Cell.okWide,Cell.ok,underlying4]at h;cases x<;>simp only[]at h
 exact⟨_,rfl⟩
theorem cf_of{W:World}{r:Reach}{base:Nat}{v:Value}(h:Value.okWide prog W r base 23 v):∃c:Cf,v=.agg c.vs:=by
 simp only[Value.okWide,underlying23]at h;obtain⟨cs,rfl,hsz,ts,hts,_,hc⟩:=h;have e1:prog.cellTypes prog.depth 23=some [3,3,3,3,3,4,4]:=by kernel_rfl
 have e2:prog.cellsOf 23=7:=by kernel_rfl
 rw[e2]at hsz;obtain rfl:[3,3,3,3,3,4,4]=ts:=Option.some.inj (e1.symm.trans hts);obtain⟨l⟩:=cs;match l,hsz,hc with
 | [v0,v1,v2,v3,v4,v5,v6],_,hc =>
  have ki:∀(i:Nat)(x:Value),(#[v0,v1,v2,v3,v4,v5,v6]:Array Value)[i]?=some x->([3,3,3,3,3,4,4]:List Nat)[i % 7]?=some 3->∃n:Int,x=.int .i64 n:=fun i x hx ht=>by
   obtain⟨u,hu,hk⟩:=hc i x hx;obtain rfl:3=u:=Option.some.inj (ht.symm.trans hu);exact Qn4 hk
  have kb:∀(i:Nat)(x:Value),(#[v0,v1,v2,v3,v4,v5,v6]:Array Value)[i]?=some x->([3,3,3,3,3,4,4]:List Nat)[i % 7]?=some 4->∃n:Bool,x=.bool n:=fun i x hx ht=>by
   obtain⟨u,hu,hk⟩:=hc i x hx;obtain rfl:4=u:=Option.some.inj (ht.symm.trans hu);exact QkX hk
  obtain⟨n0,rfl⟩:=ki 0 v0 rfl rfl;obtain⟨n1,rfl⟩:=ki 1 v1 rfl rfl;obtain⟨n2,rfl⟩:=ki 2 v2 rfl rfl;obtain⟨n3,rfl⟩:=ki 3 v3 rfl rfl;obtain⟨n4,rfl⟩:=ki 4 v4 rfl rfl;obtain⟨b5,rfl⟩:=kb 5 v5 rfl rfl;obtain⟨b6,rfl⟩:=kb 6 v6 rfl rfl;exact⟨⟨n0,n1,n2,n3,n4,b5,b6⟩,rfl⟩
theorem Qnv(c:Cf)(w:World):ARel1 w (gl w) [] (.agg c.vs) c.av:=by
 have h1:∀y∈c.vs.toList,y.oneCell'=true:=by
  intro y hy;simp only[Cf.vs,List.mem_cons,List.not_mem_nil,or_false]at hy;rcases hy with rfl|rfl|rfl|rfl|rfl|rfl|rfl<;>rfl
 refine⟨c.vs,rfl,rfl,fun j y u hy hu=>?_⟩
 have e:[AV.val (.int .i64 c.i),.val (.int .i64 c.w),.val (.int .i64 c.q),.val (.int .i64 c.e),.val (.int .i64 c.n),.val (.bool c.tabs),.val (.bool c.wrap)]=c.vs.toList.map .val:=rfl;rw[e,List.getElem?_map,hy]at hu;obtain rfl:AV.val y=u:=Option.some.inj hu;have h2:=h1 y (List.mem_of_getElem? hy);exact⟨PRel.val y h2,h2⟩
theorem FormatTag_l(c:Cf){a:Option Addr}{len cap:Nat}{zs:List Int}{w:World}(h:IsRowS .i32 w a len cap zs)(hs:∀x,a=some x->x.spot=none)(d:Int)(hd:(Lit.int .i64 d).wf=true)(p:Bool) :
  Calls prog 3 #[.agg c.vs,.slice a len cap,.int .i64 d,.bool p] w fun e w'=>e=.returned (.bool true)/\Below w.heap.size w w':=by
 have hi:I32 (zs.take len):=QlS h;have hd2:-9223372036854775808<=d:=by simp only[Lit.wf,Bool.and_eq_true,decide_eq_true_eq]at hd;exact hd.1
 exact(QcY c (zs.take len) hi d hd2 p).law w (Q6q (Qnv c w) (Q6q (QgO h hs) (Q6q (Qgh rfl) (Q6q (Qgh rfl) Qih))))
