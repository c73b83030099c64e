/-
  Parts of the proof, joined: Kid KidB Gr Gp Sn Sx Tk TagA TgQ Bt Db Rd Re Eq Bl Va Vq. Conditions: as each theorem says.
-/
import Derived.Test.YthbjpdijafccjaaGreatQE04
import Derived.Lib.Split
import Derived.Test.YthbjpdijafccjaaGreatQE02
import Derived.Test.YthbjpdijafccjaaGreatQE01
import Derived.Laws.StructEq
import Derived.WideShapes
set_option maxRecDepth 100000
set_option maxHeartbeats 8000000
namespace Go.Proofs.YthbjpdijafccjaaGreat
open Go.RowKit Go.Lib
section
variable {w:World} {g:Gh} {ob:List Ob}
def Gh.kid (g:Gh)(w:World)(id:Nat)(b:Option Nat)(n:Nat):Gh where
 A b' o:=g.A b' o∨(b=some b'∧o<n)
 G b':=if b=some b' then some id else g.G b'
 loc:=g.loc
 sub b':=if b=some b' then true else g.sub b'
theorem Qkg (M:Mem w g ob){id ep i:Nat}{xs:List AV}(h:ob[id]?=some (.row Q5C 2 false ep xs)){b c:Nat}(hv:RowV w g id Q5C 2 (.slice (some ⟨b,0,none⟩) xs.length c) xs)
  {a u:AV} (hx:xs[i]?=some (.agg [a,u])) {us:List AV} (hu:u=.slc 1 us∨(u=.val (.slice none 0 0)∧us=[])) :
  ∃ y zs,w.cell? ⟨b,i * 2+1,none⟩=some y∧w.ownsRow 0 Qgi 1 y us.length zs∧y.oneCell'=true∧Alike w g.A zs (QL us)∧(∀ x∈us,x.cells.length=1)∧∀ b',y.ownBlock=some b'→g.G b'=some id∧g.sub b'=true∧(∀ o,us.length≤o→¬ g.A b' o)∧b'<w.heap.size:=by
 obtain⟨ys,ho,hG,hal,hw,hs1,hs2⟩:=hv
 have hil:=Qb hx
 have hfl:=Q2R xs hw
 have hj:i * 2+1<ys.length:=by rw[hal.1,hfl];omega
 have hyj:=List.getElem?_eq_getElem hj
 have hcell:=ho.cells (g:=b) rfl _ _ hyj
 rw[Addr.add_mid,Nat.zero_add] at hcell
 have huj:(QL xs)[i * 2+1]?=some u:=by
  rw[Q6f xs hw i _ hx 1 (by omega)];rfl
 have hrel:=hal.2 _ _ _ hyj huj
 generalize ys[i * 2+1]=y at hyj hcell hrel
 obtain⟨⟨k,zs,h1,h2⟩,h3⟩:=hs2 rfl _ _ hyj (by omega)
 have hone:=hrel.one
 -- its length,and its cells by content
 have key:k=us.length∧Alike w g.A zs (QL us)∧∀ x∈us,x.cells.length=1:=by
  rcases hu with rfl|⟨rfl,rfl⟩
  ·cases hrel with
   |nil =>
    rcases h1.2 with ⟨_,h4⟩|⟨b',cap,cur,h4,_⟩
    ·subst h4
     have:zs=[]:=List.eq_nil_of_length_eq_zero (by have:=h1.1;omega)
     subst this
     exact⟨rfl,Alike.nil,fun x hx=>by cases hx⟩
    ·cases h4
   |slc b' o c' _ _ f hc hm hw' hcl hrl =>
    rcases h1.2 with ⟨h4,_⟩|⟨b2,cap,cur,h4,h5⟩
    ·cases h4
    ·cases h4
     refine⟨rfl,?_,hw'⟩
     have hfl2:=Q2R us hw'
     have hzl:zs.length=us.length * 1:=h1.1
     refine⟨by rw[hzl,hfl2],fun j y' u' hy' hu'=>?_⟩
     have e1:=h1.cells (g:=b') rfl j y' hy'
     rw[Addr.add_mid,Nat.zero_add] at e1
     have e2:=(hcl j u' hu').2
     rw[Nat.zero_add,e1] at e2
     obtain rfl:y'=f j:=Option.some.inj e2
     exact hrl j u' hu'
  ·cases hrel
   rcases h1.2 with ⟨_,h4⟩|⟨b',cap,cur,h4,_⟩
   ·subst h4
    have:zs=[]:=List.eq_nil_of_length_eq_zero (by have:=h1.1;omega)
    subst this
    exact⟨rfl,Alike.nil,fun x hx=>by cases hx⟩
   ·cases h4
 obtain⟨rfl,hk2,hk3⟩:=key
 refine⟨y,zs,hcell,h1,hone,hk2,hk3,fun b' hb'=>?_⟩
 obtain⟨h4,h5,h6⟩:=h2 b' hb'
 exact⟨h4,h5,h6,(M.own b' id h4).1⟩
theorem QdK:∀ (xs:List AV),(∀ x∈xs,x.cells.length=2)→∀ (i:Nat) (a u u':AV),xs[i]?=some (.agg [a,u])→QL (xs.set i (.agg [a,u']))=(QL xs).set (i * 2+1) u'
 | [],_,i,a,u,u',h=>by simp at h
 |x::r,hw,0,a,u,u',h=>by
  obtain rfl:x=.agg [a,u]:=by simpa using h
  rfl
 |x::r,hw,i+1,a,u,u',h=>by
  have ih:=QdK r (fun y hy=>hw y (List.mem_cons_of_mem _ hy)) i a u u' (by simpa using h)
  have hx:=hw x (List.mem_cons_self ..)
  obtain⟨p,q,hpq⟩:∃ p q,x.cells=[p,q]:=by
   match x.cells,hx with
   | [p,q],_=>exact⟨p,q,rfl⟩
  have e1:QL (x::r)=p::q::QL r:=by simp[hpq]
  have e2:QL (x::r.set i (.agg [a,u']))=p::q::QL (r.set i (.agg [a,u'])):=by simp[hpq]
  rw[List.set_cons_succ,e1,e2,ih,show (i+1) * 2+1=(i * 2+1)+1+1 by omega,List.set_cons_succ,List.set_cons_succ]
theorem QjT (M:Mem w g ob){id ep i:Nat}{xs:List AV}(h:ob[id]?=some (.row Q5C 2 false ep xs)){b c:Nat}(hv:RowV w g id Q5C 2 (.slice (some ⟨b,0,none⟩) xs.length c) xs)
  {a u:AV} (hx:xs[i]?=some (.agg [a,u])) {us:List AV} {y:Value} {zs:List Value} (hcell:w.cell? ⟨b,i * 2+1,none⟩=some y) (hown:w.ownsRow 0 Qgi 1 y us.length zs) (hal:Alike w g.A zs (QL us)) (hus:∀ x∈us,x.cells.length=1)
  (hyb:∀ b',y.ownBlock=some b'→g.G b'=some id∧g.sub b'=true∧(∀ o,us.length≤o→¬ g.A b' o)∧b'<w.heap.size)
  {w1 w2:World} {v':Value} {n:Int} (hw1:Below w.heap.size w w1) (ho2:w2.ownsRow 0 Qgi 1 v' (us.length+1) (zs++[.int .i64 n])) (hg:w1.grownBy w2 y.ownBlock) (hvb:v'.ownBlock=y.ownBlock∨v'.ownBlock=some w1.heap.size)
  (hc2:∀ bb kk,bb<w1.heap.size→(y.ownBlock=some bb→kk<us.length * 1)→w2.cell? ⟨bb,kk,none⟩=w1.cell? ⟨bb,kk,none⟩) :
  ∃ g3,Mem (w2.setCells b (i * 2+1) [v']) g3 (ob.set id (.row Q5C 2 false (ep+1) (xs.set i (.agg [a,.slc 1 (us++[.val (.int .i64 n)])])))) ∧
   Step w g ob (w2.setCells b (i * 2+1) [v']) g3 (ob.set id (.row Q5C 2 false (ep+1) (xs.set i (.agg [a,.slc 1 (us++[.val (.int .i64 n)])])))) ∧
   RowV (w2.setCells b (i * 2+1) [v']) g3 id Q5C 2 (.slice (some ⟨b,0,none⟩) xs.length c) (xs.set i (.agg [a,.slc 1 (us++[.val (.int .i64 n)])])):=by
 obtain⟨w3,hw3⟩:=exq (w2.setCells b (i * 2+1) [v'])
 obtain⟨g3,hg3⟩:=exq (g.kid w id v'.ownBlock (us.length+1))
 rw[←hw3]
 have hid:=Qb h
 have hil:=Qb hx
 obtain⟨ys,ho,hG,hya,hyw,hs1,hs2⟩:=hv
 have hGb:=hG b rfl
 have hsb:=hs1 b rfl
 have hbl:=(M.own b id hGb).1
 -- blocks: the main one,the slice's,what is new
 have hyne:∀ b',y.ownBlock=some b'→b'≠b:=fun b' hb e=>by
  have:=(hyb b' hb).2.1
  rw[e,hsb] at this;cases this
 have hvown:∀ b',v'.ownBlock=some b'→(y.ownBlock=some b'∧b'<w.heap.size)∨w.heap.size≤b':=fun b' hb=>by
  rcases hvb with e|e
  ·rw[e] at hb;exact .inl ⟨hb,(hyb b' hb).2.2.2⟩
  ·rw[e] at hb;cases hb;exact .inr hw1.size
 have keep:∀ b',b'<w.heap.size→b'≠b→y.ownBlock≠some b'→w3.heap[b']?=w.heap[b']?:=fun b' h1 h2 h3=>by
  rw[hw3,Q1G (k:=0) h2,hg.block b' (Nat.lt_of_lt_of_le h1 hw1.size) (fun e=>h3 e.symm),hw1.block b' h1]
 have keepc:∀ b' o,b'<w.heap.size→b'≠b→(y.ownBlock=some b'→o<us.length)→w3.cell? ⟨b',o,none⟩=w.cell? ⟨b',o,none⟩:=fun b' o h1 h2 h3=>by
  rw[hw3,World.cell?_of_block (w:=w2) (Q1G (k:=0) h2),hc2 b' o (Nat.lt_of_lt_of_le h1 hw1.size) (fun e=>by have:=h3 e;omega),World.cell?_of_block (w:=w) (hw1.block b' h1)]
 have hsz:w.heap.size≤w3.heap.size:=by
  rw[hw3,Q34]
  exact Nat.le_trans hw1.size hg.size
 have nomain:∀ o,¬ g.A b o:=fun o hA=>by
  obtain⟨et,sz,e,xs2,h1,_⟩:=(M.imm b o hA).2 id hGb hsb
  rw[h] at h1;cases h1
 have hA:∀ b' o,g.A b' o→w3.cell? ⟨b',o,none⟩=w.cell? ⟨b',o,none⟩:=fun b' o h1=>by
  refine keepc b' o (M.imm b' o h1).1 (fun e=>nomain o (e ▸ h1)) (fun e=>?_)
  refine Nat.lt_of_not_le fun h2=>(hyb b' e).2.2.1 o h2 h1
 have oldG:∀ b',b'<w.heap.size→g3.G b'=g.G b':=fun b' h1=>by
  rw[hg3]
  show (if v'.ownBlock=some b' then some id else g.G b')=_
  split
  ·rename_i e
   rcases hvown b' e with ⟨h2,_⟩|h2
   ·exact ((hyb b' h2).1).symm
   ·omega
  ·rfl
 have oldS:∀ b',b'<w.heap.size→g3.sub b'=g.sub b':=fun b' h1=>by
  rw[hg3]
  show (if v'.ownBlock=some b' then true else g.sub b')=_
  split
  ·rename_i e
   rcases hvown b' e with ⟨h2,_⟩|h2
   ·exact ((hyb b' h2).2.1).symm
   ·omega
  ·rfl
 have newA:∀ b' o,g3.A b' o→g.A b' o∨(v'.ownBlock=some b'∧o<us.length+1):=fun b' o h1=>by rw[hg3] at h1;exact h1
 have upA:∀ b' o,g.A b' o→g3.A b' o:=fun b' o h1=>by rw[hg3];exact .inl h1
 have G3:∀ b' k,g3.G b'=some k→(b'<w.heap.size∧g.G b'=some k)∨(v'.ownBlock=some b'∧k=id):=fun b' k h1=>by
  rw[hg3] at h1
  have h1:(if v'.ownBlock=some b' then some id else g.G b')=some k:=h1
  split at h1
  ·rename_i e;exact .inr ⟨e,(Option.some.inj h1).symm⟩
  ·exact .inl ⟨(M.own b' k h1).1,h1⟩
 have vlt:∀ b',v'.ownBlock=some b'→b'<w3.heap.size:=fun b' hb=>by
  rw[hw3,Q34]
  exact (ho2.lt b' hb).2
 -- other rows and boxes
 have other:∀ b' k,g.G b'=some k→k≠id→w3.heap[b']?=w.heap[b']?:=fun b' k h1 h2=>by
  refine keep b' (M.own b' k h1).1 (fun e=>?_) (fun e=>?_)
  ·rw[e,hGb] at h1;exact h2 (Option.some.inj h1).symm
  ·rw[(hyb b' e).1] at h1;exact h2 (Option.some.inj h1).symm
 have E:Ext w g ob w3 g3 (ob.set id (.row Q5C 2 false (ep+1) (xs.set i (.agg [a,.slc 1 (us++[.val (.int .i64 n)])])))):=by
  refine⟨fun b' o h1=>⟨upA b' o h1,hA b' o h1⟩,fun _ _=>by rw[hg3];rfl,fun k hk=>?_,fun k hk=>?_,fun k et sz fz e xs2 hk=>?_,fun b' k hGk hs=>?_⟩
  ·have:k≠id:=by rintro rfl;rw[h] at hk;exact hk
   rw[List.getElem?_set_ne (Ne.symm this)];exact hk
  ·have:k≠id:=by rintro rfl;rw[h] at hk;exact hk
   rw[List.getElem?_set_ne (Ne.symm this)];exact hk
  ·by_cases e':k=id
   ·subst e'
    rw[h] at hk
    cases hk
    exact⟨false,ep+1,_,List.getElem?_set_self hid,by omega,fun h1=>by omega⟩
   ·exact⟨fz,e,xs2,by rw[List.getElem?_set_ne (Ne.symm e')];exact hk,Nat.le_refl _,fun _=>⟨rfl,fun b' hb'=>⟨by rw[oldG b' (M.own b' k hb').1];exact hb',other b' k hb' e'⟩⟩⟩
  ·have e':k≠id:=by
    rintro rfl
    obtain⟨et,sz,fz,fz',e,xs2,xs3,h1,h2⟩:=hs
    rw[h] at h1
    cases h1
    rw[List.getElem?_set_self hid] at h2
    have:=Option.some.inj h2
    injection this with _ _ _ h3
    omega
   refine⟨oldS b' (M.own b' k hGk).1,fun _ o h1=>?_⟩
   rcases newA b' o h1 with h2|⟨h2,_⟩
   ·exact h2
   ·rcases hvown b' h2 with ⟨h3,_⟩|h3
    ·rw[(hyb b' h3).1] at hGk;exact absurd (Option.some.inj hGk).symm e'
    ·have:=(M.own b' k hGk).1;omega
 have hrow:RowV w3 g3 id Q5C 2 (.slice (some ⟨b,0,none⟩) xs.length c) (xs.set i (.agg [a,.slc 1 (us++[.val (.int .i64 n)])])):=by
  have hvne:∀ b',v'.ownBlock=some b'→b'≠b:=fun b' hb=>by
   rcases hvown b' hb with ⟨h1,_⟩|h1
   ·exact hyne b' h1
   ·omega
  have hv3:w3.ownsRow 0 Qgi 1 v' (us.length+1) (zs++[.int .i64 n]):=Q3g ho2 fun b' hb=>by rw[hw3];exact Q1G (k:=0) (hvne b' hb)
  have hfl:=Q2R xs hyw
  have hjl:i * 2+1<ys.length:=by rw[hya.1,hfl];omega
  have hfs:=QdK xs hyw i a u (.slc 1 (us++[.val (.int .i64 n)])) hx
  have hlen':(us++[AV.val (.int .i64 n)]).length=us.length+1:=by simp
  have hw':∀ x∈us++[AV.val (.int .i64 n)],x.cells.length=1:=fun x hx=>by
   rcases List.mem_append.1 hx with h1|h1
   ·exact hus x h1
   ·obtain rfl:x=.val (.int .i64 n):=by simpa using h1
    rfl
  have hfa:QL (us++[AV.val (.int .i64 n)])=QL us++[.val (.int .i64 n)]:=by simp[AV.cells]
  have hal':Alike w3 g3.A (zs++[.int .i64 n]) (QL (us++[AV.val (.int .i64 n)])):=by
   rw[hfa]
   refine (hal.keep E.A).append ⟨rfl,fun j y' u' h1 h2=>?_⟩
   cases j with
   |zero =>
    obtain rfl:Value.int .i64 n=y':=by simpa using h1
    obtain rfl:AV.val (.int .i64 n)=u':=by simpa using h2
    exact PRel.val _ rfl
   |succ j=>simp at h1
  have hvP:PRel w3 g3.A v' (.slc 1 (us++[.val (.int .i64 n)])):=by
   rcases hv3.2 with ⟨_,h1⟩|⟨b',cap,cur,h1,h2,h3,h4,h5,h6,h7⟩
   ·omega
   ·subst h1
    rw[←hlen'] at h4 hv3 ⊢
    have hzl:(zs++[Value.int .i64 n]).length=(us++[AV.val (.int .i64 n)]).length * 1:=hv3.1
    have hfl2:=Q2R (us++[AV.val (.int .i64 n)]) hw'
    have get:∀ (j:Nat) u',(QL (us++[AV.val (.int .i64 n)]))[j]?=some u'→j<(zs++[Value.int .i64 n]).length∧(zs++[Value.int .i64 n])[j]?=some ((zs++[Value.int .i64 n]).getD j undef):=fun j u' hu'=>by
     have h8:=Qb hu'
     rw[hfl2] at h8
     have h9:j<(zs++[Value.int .i64 n]).length:=by omega
     exact⟨h9,by rw[List.getD_eq_getElem?_getD,List.getElem?_eq_getElem h9];rfl⟩
    refine PRel.slc b' 0 cap 1 _ (fun j=>(zs++[Value.int .i64 n]).getD j undef) h4 h5 hw' (fun j u' hu'=>⟨?_,?_⟩) (fun j u' hu'=>?_)
    ·rw[hg3]
     refine .inr ⟨rfl,?_⟩
     have:=(get j u' hu').1
     rw[hzl,hlen'] at this
     omega
    ·have:=hv3.cells (g:=b') rfl j _ (get j u' hu').2
     rw[Addr.add_mid,Nat.zero_add] at this
     rw[Nat.zero_add];exact this
    ·exact hal'.2 j _ u' (get j u' hu').2 hu'
  rcases ho.2 with ⟨h1,_⟩|⟨b0,cap,cur,h1,h2,h3,h4,h5,h6,h7⟩
  ·cases h1
  ·cases h1
   have hh2:w2.heap[b]?=some (.cells cur Q5C (0,0)):=by
    rw[hg.block b (Nat.lt_of_lt_of_le hbl hw1.size) (fun e=>hyne b e.symm rfl),hw1.block b hbl]
    exact h3
   have hjc:i * 2+1<cur.size:=by
    have:ys.length≤cur.size:=by rw[←h7,List.length_take];simp;omega
    omega
   have hh3:=Q3d (W:=w2) [v'] (i * 2+1) w2 cur hh2 (by simp;omega)
   have hset:cur.toList.take (i * 2+1)++([v']++cur.toList.drop (i * 2+1 + [v'].length))=cur.toList.set (i * 2+1) v':=by
    rw[List.set_eq_take_append_cons_drop,if_pos (by simpa using hjc)]
    rfl
   rw[hset] at hh3
   refine⟨ys.set (i * 2+1) v',⟨by rw[List.length_set,List.length_set];exact ho.1,.inr ⟨b,c,(cur.toList.set (i * 2+1) v').toArray,by rw[List.length_set],Nat.zero_le _,by rw[hw3];exact hh3,by rw[List.length_set];exact h4,h5,by simpa using h6,?_⟩⟩,fun b' hb=>?_,?_,?_,fun b' hb=>?_,fun _ j y' hy' hj=>?_⟩
   ·rw[List.length_set]
    show ((cur.toList.set (i * 2+1) v').toArray.toList).take _=_
    rw[List.toList_toArray,List.take_set,h7]
   ·obtain rfl:b=b':=by simpa[Value.ownBlock] using hb
    rw[oldG b hbl];exact hGb
   ·rw[hfs]
    refine⟨by rw[List.length_set,List.length_set];exact hya.1,fun j y' u' h8 h9=>?_⟩
    by_cases e:j=i * 2+1
    ·subst e
     rw[List.getElem?_set_self hjl] at h8
     rw[List.getElem?_set_self (by rw[←hya.1];exact hjl)] at h9
     cases h8;cases h9
     exact hvP
    ·rw[List.getElem?_set_ne (Ne.symm e)] at h8 h9
     exact (hya.2 j y' u' h8 h9).keep E.A
   ·intro x hx'
    rcases List.mem_or_eq_of_mem_set hx' with h1|h1
    ·exact hyw x h1
    ·rw[h1];rfl
   ·obtain rfl:b=b':=by simpa[Value.ownBlock] using hb
    rw[oldS b hbl];exact hsb
   ·have hy0:ys[i * 2+1]?=some y:=by
     have e1:=List.getElem?_eq_getElem hjl
     have e2:=ho.cells (g:=b) rfl _ _ e1
     rw[Addr.add_mid,Nat.zero_add,hcell] at e2
     rw[e1,←Option.some.inj e2]
    -- a block that another one owns
    have oldne:∀ (j:Nat) y',ys[j]?=some y'→j % 2=1→j≠i * 2+1→∀ b',y'.ownBlock=some b'→v'.ownBlock≠some b'∧y.ownBlock≠some b'∧b'≠b∧b'<w.heap.size:=fun j y' h8 h9 h10 b' hb=>by
     obtain⟨⟨k,zs',h11,h12⟩,h13⟩:=hs2 rfl j y' h8 h9
     obtain⟨h14,h15,_⟩:=h12 b' hb
     have hyn:y.ownBlock≠some b':=fun e=>h10 (h13 _ y b' hy0 (by omega) e hb).symm
     have hlt:=(M.own b' id h14).1
     refine⟨fun e=>?_,hyn,fun e=>?_,hlt⟩
     ·rcases hvown b' e with ⟨h16,_⟩|h16
      ·exact hyn h16
      ·omega
     ·rw[e,hsb] at h15;cases h15
    by_cases e:j=i * 2+1
    ·subst e
     rw[List.getElem?_set_self hjl] at hy'
     cases hy'
     refine⟨⟨us.length+1,_,hv3,fun b' hb=>⟨?_,?_,fun o ho' hA'=>?_⟩⟩,fun k z b' hz hk hzb hvb'=>?_⟩
     ·rw[hg3]
      show (if v'.ownBlock=some b' then some id else g.G b')=_
      rw[if_pos hb]
     ·rw[hg3]
      show (if v'.ownBlock=some b' then true else g.sub b')=_
      rw[if_pos hb]
     ·rcases newA b' o hA' with h8|⟨_,h8⟩
      ·rcases hvown b' hb with ⟨h9,_⟩|h9
       ·exact (hyb b' h9).2.2.1 o (by omega) h8
       ·have:=(M.imm b' o h8).1;omega
      ·omega
     ·refine Classical.byContradiction fun hne=>?_
      rw[List.getElem?_set_ne (Ne.symm hne)] at hz
      exact (oldne k z hz hk hne b' hzb).1 hvb'
    ·rw[List.getElem?_set_ne (Ne.symm e)] at hy'
     obtain⟨⟨k,zs',h11,h12⟩,h13⟩:=hs2 rfl j y' hy' hj
     refine⟨⟨k,zs',Q3g h11 fun b' hb=>?_,fun b' hb=>?_⟩,fun k' z b' hz hk' hzb hyb'=>?_⟩
     ·obtain⟨h8,h9,h10,h14⟩:=oldne j y' hy' hj e b' hb
      exact keep b' h14 h10 h9
     ·obtain⟨h8,h9,h10,h14⟩:=oldne j y' hy' hj e b' hb
      obtain⟨h15,h16,h17⟩:=h12 b' hb
      refine⟨by rw[oldG b' h14];exact h15,by rw[oldS b' h14];exact h16,fun o ho' hA'=>?_⟩
      rcases newA b' o hA' with h18|⟨h18,_⟩
      ·exact h17 o ho' h18
      ·exact h8 h18
     ·by_cases e2:k'=i * 2+1
      ·subst e2
       rw[List.getElem?_set_self hjl] at hz
       cases hz
       exact absurd hzb (oldne j y' hy' hj e b' hyb').1
      ·rw[List.getElem?_set_ne (Ne.symm e2)] at hz
       exact h13 k' z b' hz hk' hzb hyb'
 refine⟨g3,?_,?_,hrow⟩
 ·refine⟨fun k cs hk=>?_,fun k cs hk j u hj=>?_,fun k s p hk=>?_,fun b' k hk=>?_,fun b' o hA'=>?_,fun k et sz fz e xs2 hk=>?_,fun b' hs=>?_,fun b1 b2 k h1 h2 hs hs'=>?_⟩
  ·have e':k≠id:=by rintro rfl;rw[List.getElem?_set_self hid] at hk;cases hk
   rw[List.getElem?_set_ne (Ne.symm e')] at hk
   obtain⟨h1,cur,T,h2,h3⟩:=M.box k cs hk
   have hl:g3.loc k=g.loc k:=by rw[hg3];rfl
   exact⟨by rw[hl,oldG _ (M.own _ _ h1).1];exact h1,cur,T,by rw[hl,other _ _ h1 e'];exact h2,h3.ext E⟩
  ·have e':k≠id:=by rintro rfl;rw[List.getElem?_set_self hid] at hk;cases hk
   rw[List.getElem?_set_ne (Ne.symm e')] at hk
   obtain⟨h1,y',h2,h3⟩:=M.fbox k cs hk j u hj
   have hl:g3.loc k=g.loc k:=by rw[hg3];rfl
   exact⟨by rw[hl];exact upA _ _ h1,y',by rw[hl,hA _ _ h1];exact h2,h3.keep E.A⟩
  ·have e':k≠id:=by rintro rfl;rw[List.getElem?_set_self hid] at hk;cases hk
   rw[List.getElem?_set_ne (Ne.symm e')] at hk
   obtain⟨h1,h2⟩:=M.iter k s p hk
   have hl:g3.loc k=g.loc k:=by rw[hg3];rfl
   exact⟨by rw[hl,oldG _ (M.own _ _ h1).1];exact h1,by rw[hl,other _ _ h1 e'];exact h2⟩
  ·rw[List.length_set]
   rcases G3 b' k hk with ⟨h1,h2⟩|⟨h1,rfl⟩
   ·exact⟨Nat.lt_of_lt_of_le h1 hsz,(M.own b' k h2).2⟩
   ·exact⟨vlt b' h1,hid⟩
  ·rcases newA b' o hA' with h1|⟨h1,h2⟩
   ·have h3:=M.imm b' o h1
    refine⟨Nat.lt_of_lt_of_le h3.1 hsz,fun k hk hs=>?_⟩
    rw[oldG b' h3.1] at hk
    rw[oldS b' h3.1] at hs
    obtain⟨et,sz,e,xs2,h4,h5⟩:=h3.2 k hk hs
    have e':k≠id:=by rintro rfl;rw[h] at h4;cases h4
    exact⟨et,sz,e,xs2,by rw[List.getElem?_set_ne (Ne.symm e')];exact h4,h5⟩
   ·refine⟨vlt b' h1,fun k hk hs=>?_⟩
    rw[hg3] at hs
    have hs:(if v'.ownBlock=some b' then true else g.sub b')=false:=hs
    rw[if_pos h1] at hs;cases hs
  ·by_cases e':k=id
   ·subst e'
    rw[List.getElem?_set_self hid] at hk
    cases hk
    refine⟨by omega,fun x hx'=>?_⟩
    rcases List.mem_or_eq_of_mem_set hx' with h1|h1
    ·exact hyw x h1
    ·rw[h1];rfl
   ·rw[List.getElem?_set_ne (Ne.symm e')] at hk;exact M.roww k _ _ _ _ _ hk
  ·rw[hg3] at hs
   have hs:(if v'.ownBlock=some b' then true else g.sub b')=true:=hs
   split at hs
   ·rename_i h1
    refine⟨id,_,_,_,_,_,?_,List.getElem?_set_self hid⟩
    rw[hg3]
    show (if v'.ownBlock=some b' then some id else g.G b')=_
    rw[if_pos h1]
   ·obtain⟨k,et,sz,fz,e,xs2,h1,h2⟩:=M.nsub b' hs
    have h3:g3.G b'=some k:=by rw[oldG b' (M.own b' k h1).1];exact h1
    by_cases e':k=id
    ·subst e'
     exact⟨k,_,_,_,_,_,h3,List.getElem?_set_self hid⟩
    ·exact⟨k,et,sz,fz,e,xs2,h3,by rw[List.getElem?_set_ne (Ne.symm e')];exact h2⟩
  ·have main:∀ b' k,g3.G b'=some k→g3.sub b'=false→g.G b'=some k∧g.sub b'=false:=fun b' k h1 h2=>by
    rw[hg3] at h1 h2
    have h1:(if v'.ownBlock=some b' then some id else g.G b')=some k:=h1
    have h2:(if v'.ownBlock=some b' then true else g.sub b')=false:=h2
    split at h2
    ·cases h2
    ·rename_i e
     rw[if_neg e] at h1
     exact⟨h1,h2⟩
   exact M.uniq b1 b2 k (main b1 k h1 hs).1 (main b2 k h2 hs').1 (main b1 k h1 hs).2 (main b2 k h2 hs').2
 ·have hr:=Q37 b [v'] (i * 2+1) w2
  refine⟨?_,?_,?_,hsz,fun b' h1 h2=>?_,fun b' k hk=>?_,fun b' o hA'=>?_,E,by simp⟩
  ·rw[hw3,hr.1,hg.os,hw1.os]
  ·rw[hw3,hr.2.1,hg.tape,hw1.tape]
  ·rw[hw3,hr.2.2,hg.output,hw1.output]
  ·exact keep b' h1 (fun e=>by rw[e,hGb] at h2;cases h2) (fun e=>by rw[(hyb b' e).1] at h2;cases h2)
  ·rcases G3 b' k hk with ⟨_,h2⟩|⟨h1,rfl⟩
   ·exact .inl ⟨k,h2⟩
   ·rcases hvown b' h1 with ⟨h2,_⟩|h2
    ·exact .inl ⟨_,(hyb b' h2).1⟩
    ·exact .inr h2
  ·rcases newA b' o hA' with h1|⟨h1,_⟩
   ·exact .inl h1
   ·rcases hvown b' h1 with ⟨h2,_⟩|h2
    ·exact .inr (.inl ⟨_,(hyb b' h2).1⟩)
    ·exact .inr (.inr h2)
end
end Go.Proofs.YthbjpdijafccjaaGreat
namespace Go.Proofs.YthbjpdijafccjaaGreat
open Go.RowKit Go.Lib Tryz
section
variable {P:Program} {ops:Array Oper} {R:Exit→Act→World→Prop} {a:Act} {w w':World} {i:Nat} {rest:List Nat} {o:Oper} {ty:Tys}
theorem Q2C {v:Value}(ho:ops[i]?=some o)(hg:o.guard=none)(hr:(execOp a.eval o).run P w=.ok (.value v) w')(h:wpOps P ops R rest (a.put o.dst v) w'):wpOps P ops R (i::rest) a w:=by
 unfold wpOps
 rw[ho]
 simp only[Region.wanted,hg,if_true]
 exact .inl (Q6c hr h)
theorem QeH (ho:ops[i]?=some o)(hg:o.guard=none)(hr:(execOp a.eval o).run P w=.ok .skip w')(h:wpOps P ops R rest (a.put o.dst undef) w'):wpOps P ops R (i::rest) a w:=by
 unfold wpOps
 rw[ho]
 simp only[Region.wanted,hg,if_true]
 refine .inl ?_
 unfold Oper.wp
 rw[hr]
 exact h
theorem Qhr (d:Nat)(v:Value):(a.put (some d) v).tmps.size=a.tmps.size:=by
 show (a.tmps.setIfInBounds d v).size=_
 simp
theorem Qhf {d:Nat}(h:d<a.tmps.size)(v:Value)(t:Nat):(a.put (some d) v).eval (.tmp t)=if t=d then v else a.eval (.tmp t):=by
 show (a.tmps.setIfInBounds d v).getD t undef=if t=d then v else a.tmps.getD t undef
 by_cases e:t=d
 ·subst e;simp[Array.getD_eq_getD_getElem?,h]
 ·rw[if_neg e]
  simp only[Array.getD_eq_getD_getElem?]
  rw[Array.getElem?_setIfInBounds_ne (Ne.symm e)]
structure At (N:Nat) (a:Act) (f:Nat→Value):Prop where
 defers:a.defers=[]
 size:a.tmps.size=N
 ev:∀ t,a.eval (.tmp t)=f t
theorem At.put {N:Nat}{f:Nat→Value}(h:At N a f){d:Nat}(hd:d<N)(v:Value):At N (a.put (some d) v) fun t=>if t=d then v else f t :=
 ⟨h.defers,by rw[Qhr];exact h.size,fun t=>by rw[Qhf (by rw[h.size];exact hd)];rw[h.ev]⟩
theorem Q90 {x:Operand}(ho:o.op=.move x∨o.op=.assign x):(execOp a.eval o).run P w=.ok (.value (a.eval x)) w:=by
 rcases ho with ho|ho<;>simp only[execOp,ho]<;>rfl
theorem Q6V {x:Operand}{ad:Addr}(ho:o.op=.nilCheck x)(hv:a.eval x=.pointer (some ad)):(execOp a.eval o).run P w=.ok (.value (.pointer (some ad))) w:=by
 simp only[execOp,ho,hv]<;>rfl
theorem Q6T (hT:TyOk P ty){T:Nat}{x:Operand}{f off t b u:Nat}(ho:o.op=.fieldAddr T x f)(hf:(Q4 T ty).flds[f]?=some (off,t))(hfo:fOk ty t=true)
  (hv:a.eval x=.pointer (some ⟨b,u,none⟩)):(execOp a.eval o).run P w=.ok (.value (.pointer (some ⟨b,u+off,none⟩))) w:=by
 obtain⟨fs,fd,h1,h2,h3⟩:=(Qes hT hf).strct' hf
 obtain⟨rfl,rfl⟩:off=fd.offset∧t=fd.type:=by simpa using h3
 simp only[fOk,Bool.and_eq_true,bne_iff_ne,ne_eq] at hfo
 have hs:=(Q32 hT hfo.1).size w
 simp only[execOp,ho]
 refine Q2n ?_
 rw[hv]
 simp[Instr.fieldAt,run_underlying h1,h2,Instr.sureAddr,fieldPlace,hs,hfo.2,Addr.add_mid]
theorem QgJ (hT:TyOk P ty){T:Nat}{x:Operand}{b u:Nat}{y:Value}(ho:o.op=.load T x)(hok:(Q4 T ty).ok=true)(hag:(Q4 T ty).agg=false)
  (hv:a.eval x=.pointer (some ⟨b,u,none⟩)) (hc:w.cell? ⟨b,u,none⟩=some y):(execOp a.eval o).run P w=.ok (.value y) w:=by
 have:=(Q32 hT hok).isAgg w
 rw[hag] at this
 simp only[execOp,ho]
 refine Q2n ?_
 rw[hv]
 simp[Instr.loadAt,Instr.sureAddr,loadVar,this,hc]
theorem Qej (hT:TyOk P ty){T:Nat}{x y:Operand}{b u:Nat}{v:Value}(ho:o.op=.store T x y)(hok:(Q4 T ty).ok=true)(hsz:(Q4 T ty).size=1)
  (hv:a.eval x=.pointer (some ⟨b,u,none⟩)) (hy:a.eval y=v) (h1:v.oneCell'=true) {z:Value} (hc:w.cell? ⟨b,u,none⟩=some z) (hf:w.frozen? ⟨b,u,none⟩=false) :
  (execOp a.eval o).run P w=.ok .skip (w.setCells b u [v]):=by
 have hst:=run_storeCells_cells (P:=P) b u [v] 0 w (fun j hj=>by
  obtain rfl:j=0:=by simpa using hj
  show (w.cell? ⟨b,u,none⟩).isSome=true
  rw[hc];rfl) (fun j hj=>by
  obtain rfl:j=0:=by simpa using hj
  exact hf) (fun v' hv'=>by
  obtain rfl:v'=v:=by simpa using hv'
  exact h1)
 rw[Nat.add_zero] at hst
 have hsT:=(Q32 hT hok).size w
 rw[hsz] at hsT
 have hcl:v.cells=#[v]:=QaB h1
 simp only[execOp,ho,Instr.storeAt,hv,hy,Instr.sureAddr,storeVar,Sem.run_bind,Sem.run_pure,Result.andThen_ok,hsT,hcl]
 simp[hst]
theorem Qkm {x y:Operand}{T U:Nat}{v:Value}(ho:o.op=.call { callee:=.builtin .append,args:=#[x,y],argTypes:=#[T,U] })(hr:(Builtin.append_ #[T,U] o.type #[a.eval x,a.eval y]).run P w=.ok v w') :
  (execOp a.eval o).run P w=.ok (.value v) w':=by
 obtain⟨cs,hc⟩:=Q5B (P:=P) (a:=a) ho w
 rw[hc]
 show (do pure (Next.value (←Builtin.append_ #[T,U] o.type (Array.map a.eval #[x,y]))):Sem Next).run P w=_
 refine Q2n ?_
 simpa using hr
end
section
variable {w0:World} {g0:Gh} {o0:List Ob}
theorem Qaw {w:World}{b o:Nat}{v:Value}{cur:Array Value}{T:TypeId}{fr:Nat×Nat}(h:w.heap[b]?=some (.cells cur T fr))(hv:cur[o]?=some v):w.setCells b o [v]=w:=by
 have e:cur.setIfInBounds o v=cur:=by
  apply Array.ext'
  refine List.ext_getElem? fun j=>?_
  rw[Array.getElem?_toList,Array.getElem?_toList,Array.getElem?_setIfInBounds]
  split
  ·rename_i e;subst e
   split
   ·exact hv.symm
   ·rename_i hn;rw[Array.getElem?_eq_none (by omega)]
  ·rfl
 show ({ w with heap:=_ }:World)=w
 have e2:(w.heap.modify b fun
   |.cells c elem frozen=>.cells (if (none:Option Nat).isSome then c else c.setIfInBounds o v) elem frozen
   |o=>o)=w.heap:=by
  apply Array.ext'
  refine List.ext_getElem? fun j=>?_
  rw[Array.getElem?_toList,Array.getElem?_toList,Array.getElem?_modify]
  split
  ·rename_i e3;subst e3
   rw[h]
   simp[e]
  ·rfl
 exact congrArg (fun x=>({ w with heap:=x }:World)) e2
theorem Qgx {ob:List Ob}{args:List AV}{g:Gh}{w:World}{vs:List Value}{N:Nat}(M:Mem w g ob)(hL:Q3E w g ob vs args)(hn:args.length≤N) :
  Sim w g ob N ⟨ent 0 args,ob⟩ { tmps:=vs.toArray++Array.replicate (N-vs.toArray.size) undef,defers:=[] } w:=by
 have hlen:vs.length=args.length:=hL.1
 refine⟨rfl,?_,g,M,fun t=>?_,Step.refl⟩
 ·simp;omega
 ·show ARel w g ob _ (lk t (ent 0 args))
  rw[Qey]
  simp only[Nat.zero_le,if_true,Nat.sub_zero]
  by_cases ht:t<args.length
  ·rw[List.getD_eq_getElem?_getD,List.getElem?_eq_getElem ht,Option.getD_some]
   have e:(vs.toArray++Array.replicate (N-vs.toArray.size) undef).getD t undef=vs[t]'(by omega):=by
    rw[Array.getD_eq_getD_getElem?,Array.getElem?_append_left (by simp;omega)]
    simp[show t<vs.length by omega]
   rw[e]
   exact (hL.2 t _ _ (List.getElem?_eq_getElem (by omega)) (List.getElem?_eq_getElem ht)).to
  ·rw[List.getD_eq_getElem?_getD,List.getElem?_eq_none (by omega)]
   trivial
end
theorem QbW {P:Program}{fn:Func}(h:fn.results=#[])(tmps:Array Value)(w:World):(results fn tmps).run P w=.ok (.tuple #[]) w:=by
 simp[results,h]
noncomputable def kidR0:Code:=match f13.body with|some (.seq c _)=>c|_=>.skip
noncomputable def kidR1:Code:=match f13.body with|some (.seq _ c)=>c|_=>.skip
def QlR (ob:List Ob)(k:Nat)(i n:Int)(e:Ex)(s:St):Prop:=e=.normal∧s.ob=ob∧lk 4 s.tm=.rptr k 0 i 0∧lk 1 s.tm=.val (.int .i64 n)
theorem Qk0 {ob:List Ob}{k:Nat}{bs tp:AV}{xs:List AV}(hb:ob[0]?=some (.box [bs,tp,.row k 0]))(hk:ob[k]?=some (.row Q5C 2 false 0 xs)){i n:Int}
  (hr0:∀ w0 g0,(Q5 std tys cs0 (fun _=>.nil) kidR0 (fun e s=>.leaf e s) ⟨ent 0 [.box 0 0,.val (.int .i64 n)],ob⟩).ok prog w0 g0 ob 26 (QlR ob k i n))
  {a u:AV} {us:List AV} (hi:0≤i) (hx:xs[i.toNat]?=some (.agg [a,u])) (hu:u=.slc 1 us∨(u=.val (.slice none 0 0)∧us=[])) (hul:us.length≤1000000) :
  BCall prog 13 [.box 0 0,.val (.int .i64 n)] ob (.tup []) ((ob.set k (.row Q5C 2 false 1 (xs.set i.toNat (.agg [a,.slc 1 (us++[.val (.int .i64 n)])])))).set 0 (.box [bs,tp,.row k 1])):=by
 refine⟨enters_of func13 (by kernel_rfl) rfl,fun w0 g0 vs M0 hL=>calls_of_wp func13 (c:=.seq kidR0 kidR1) rfl ?_⟩
 refine wp_seq (Q4X (w0:=w0) (g0:=g0) (o0:=ob) (N:=26) (Q:=QlR ob k i n) (cs:=cs0) (ord:=fun _=>.nil) Q6O (by kernel_rfl) kidR0 (fun e s=>.leaf e s) _ ⟨ent 0 [.box 0 0,.val (.int .i64 n)],ob⟩ _ w0 (by kernel_rfl) (by kernel_rfl) (fun c a d v w h=>h) (fun e s ac w hs hq=>?_) (Qgx M0 hL (Nat.le_of_ble_eq_true rfl)) (hr0 w0 g0))
 obtain⟨rfl,hob,h4,h1⟩:=(show QlR ob k i n e s from hq)
 show kidR1.wp _ _ ac w
 refine wp_region ?_
 show wpOps _ _ _ [0,1,2,3,4,5,6,7,8,9,10] ac w
 obtain⟨hdf,hsz,g,M,hS,h0⟩:=hs
 rw[hob] at M h0
 have hk0:k≠0:=by rintro rfl;rw[hb] at hk;cases hk
 -- what the slots hold
 have hp:=hS 4
 rw[h4,hob] at hp
 obtain⟨_,et,sz,fz,ee,xs',hob',_,hp2⟩:=(show ARel0 w g ob _ (.rptr k 0 i 0) from hp)
 rw[hk] at hob'
 cases hob'
 obtain⟨b,c,hpv,_,hil,hRV⟩:=hp2 rfl
 have hn:=hS 1
 rw[h1] at hn
 have hnv:=hn.valEq
 -- the maker's box
 obtain⟨hG0,cur,T0,hh0,hc0⟩:=M.box 0 _ hb
 have hcl:cur.toList.length=3:=hc0.1
 obtain⟨v,hv⟩:∃ v,cur.toList[2]?=some v:=⟨_,List.getElem?_eq_getElem (by omega)⟩
 obtain⟨⟨hv1,et,sz,fz,ee,xs',hob',_,hv2⟩,_⟩:=hc0.2 2 v (.row k 0) hv rfl
 rw[hk] at hob'
 cases hob'
 have hRB:=hv2 rfl
 obtain⟨ysP,hoP,hGP,_,_,hsP,_⟩:=hRV
 obtain⟨ysB,hoB,hGB,_,_,hsB,_⟩:=(show RowV w g k Q5C 2 v xs from hRB)
 rcases hoB.2 with ⟨_,h00⟩|⟨bB,cap,curB,rfl,_,hhB,_,_,_,_⟩
 ·omega
 obtain rfl:b=bB:=M.uniq _ _ k (hGP b rfl) (hGB bB rfl) (hsP b rfl) (hsB bB rfl)
 obtain⟨y,zs,hcell,hown,hone,hal,hus,hyb⟩:=Qkg M hk hRB hx hu
 have hGb:=hGB b rfl
 have hbl:=(M.own b k hGb).1
 have hyne:y.ownBlock≠some b:=fun e=>by
  have:=(hyb b e).2.1
  rw[hsB b rfl] at this;cases this
 have h0ne:g.loc 0≠b:=fun e=>by
  rw[e,hGb] at hG0
  exact hk0 (Option.some.inj hG0)
 have h0ny:y.ownBlock≠some (g.loc 0):=fun e=>by
  have:=(hyb _ e).1
  rw[hG0] at this
  exact hk0 (Option.some.inj this).symm
 -- one operation after the other
 have A0:At 26 ac (fun t=>ac.eval (.tmp t)):=⟨hdf,hsz,fun _=>rfl⟩
 have e4:ac.eval (.tmp 4)=.pointer (some ⟨b,i.toNat * 2+0,none⟩):=hpv
 have e1:ac.eval (.tmp 1)=.int .i64 n:=hnv
 generalize hPV:Value.pointer (some ⟨b,i.toNat * 2+0,none⟩)=PV at e4
 refine Q2C rfl rfl (Q90 (x:=.tmp 4) (.inl rfl)) ?_
 rw[e4]
 show wpOps _ _ _ [1,2,3,4,5,6,7,8,9,10] (ac.put (some 16) PV) w
 have A1:=A0.put (d:=16) (by decide) PV
 generalize ac.put (some 16) PV=a1 at A1 ⊢
 refine Q2C rfl rfl (Q90 (x:=.tmp 4) (.inl rfl)) ?_
 rw[show a1.eval (.tmp 4)=PV by rw[A1.ev];exact e4]
 show wpOps _ _ _ [2,3,4,5,6,7,8,9,10] (a1.put (some 17) PV) w
 have A2:=A1.put (d:=17) (by decide) PV
 generalize a1.put (some 17) PV=a2 at A2 ⊢
 refine Q2C rfl rfl (Q6V (x:=.tmp 17) (ad:=⟨b,i.toNat * 2+0,none⟩) rfl (by rw[A2.ev,hPV];rfl)) ?_
 rw[hPV]
 show wpOps _ _ _ [3,4,5,6,7,8,9,10] (a2.put (some 18) PV) w
 have A3:=A2.put (d:=18) (by decide) PV
 generalize a2.put (some 18) PV=a3 at A3 ⊢
 refine Q2C rfl rfl (Q6T Q6O (x:=.tmp 18) (off:=1) (t:=25) rfl (by kernel_rfl) (by kernel_rfl) (b:=b) (u:=i.toNat * 2+0) (by rw[A3.ev,hPV];rfl)) ?_
 rw[Nat.add_zero]
 generalize hFV:Value.pointer (some ⟨b,i.toNat * 2+1,none⟩)=FV
 show wpOps _ _ _ [4,5,6,7,8,9,10] (a3.put (some 19) FV) w
 have A4:=A3.put (d:=19) (by decide) FV
 generalize a3.put (some 19) FV=a4 at A4 ⊢
 refine Q2C rfl rfl (QgJ Q6O (x:=.tmp 19) rfl (by kernel_rfl) (by kernel_rfl) (b:=b) (u:=i.toNat * 2+1) (by rw[A4.ev,hFV];rfl) hcell) ?_
 show wpOps _ _ _ [5,6,7,8,9,10] (a4.put (some 20) y) w
 have A5:=A4.put (d:=20) (by decide) y
 generalize a4.put (some 20) y=a5 at A5 ⊢
 refine Q2C rfl rfl (Q90 (x:=.tmp 1) (.inl rfl)) ?_
 rw[show a5.eval (.tmp 1)=.int .i64 n by rw[A5.ev];exact e1]
 generalize hNV:Value.int .i64 n=NV
 show wpOps _ _ _ [6,7,8,9,10] (a5.put (some 21) NV) w
 have A6:=A5.put (d:=21) (by decide) NV
 generalize a5.put (some 21) NV=a6 at A6 ⊢
 -- the slice of one number
 obtain⟨e,hu25,hee,te,hes,_⟩:=Q4H Q6O (T:=25) (sz:=1) (by kernel_rfl)
 obtain⟨ie,z,hie,hies,hieb,hiz,hzc⟩:=te.i
 have hek:e=Qgi:=hee.trans (by kernel_rfl)
 rw[hes] at hies
 have hzs:z.cells.size=1:=by
  have:=congrArg List.length hzc
  rw[Array.length_toList,te.zl,hes] at this
  exact this
 have hN1:NV.cells=#[NV]:=by rw[←hNV];rfl
 obtain⟨c',hf,hc'⟩:=Q8g (sz:=1) [NV] 0 ((Array.range (1 * 1)).map (z.cells[· % z.cells.size]!)) (fun v' hv'=>by
  obtain rfl:v'=NV:=by simpa using hv'
  rw[hN1];rfl) (by simp)
 obtain rfl:c'=#[NV]:=by
  apply Array.ext'
  rw[hc']
  simp[hN1]
 have hrB:(Instr.buildSlice 25 1 #[(0,NV)]).run prog w=.ok (.slice (some ⟨w.heap.size,0,none⟩) 1 1) (w.alloc (.cells #[NV] e)) :=
  run_buildSlice w 25 e 1 _ _ ie z hu25 hie hiz (by rw[hies];decide) (by rw[hies];decide) (by rw[hies];exact hf)
 refine Q2C (w':=w.alloc (.cells #[NV] e)) (v:=.slice (some ⟨w.heap.size,0,none⟩) 1 1) rfl rfl (by
  simp only[execOp]
  refine Q2n ?_
  have:(#[(0,Operand.tmp 21)].map fun (x:Nat×Operand)=>(x.1,a6.eval x.2))=#[(0,NV)]:=by
   simp[A6.ev]
  rw[←this] at hrB
  exact hrB) ?_
 have hhN:(w.alloc (.cells #[NV] e)).heap[w.heap.size]?=some (.cells #[NV] e (0,0)):=Q6l w _
 have hB1:Below w.heap.size w (w.alloc (.cells #[NV] e)):=(Below.refl _ w).alloc (Nat.le_refl _) _
 have hold:∀ b',b'<w.heap.size→(w.alloc (.cells #[NV] e)).heap[b']?=w.heap[b']?:=fun b' h=>Q3X h
 generalize hSV:Value.slice (some ⟨w.heap.size,0,none⟩) 1 1=SV
 show wpOps _ _ _ [7,8,9,10] (a6.put (some 22) SV) _
 generalize w.alloc (.cells #[NV] e)=w1 at hhN hB1 hold ⊢
 have A7:=A6.put (d:=22) (by decide) SV
 generalize a6.put (some 22) SV=a7 at A7 ⊢
 obtain⟨v',w2,hrA,ho2,hg,hvb,hc2⟩:=Q8Y (P:=prog) (w:=w1) (t:=25) (u:=25) (ty:=25) hu25 hu25 (.inl ⟨_,rfl⟩) hie hiz hies (by rw[hieb];exact te.by_) hzs
  (Q3g (hek ▸ hown) fun b' hb'=>hold b' (hyb b' hb').2.2.2) (x:=SV) (m:=1) (news:=[NV]) rfl (fun W=>by rw[←hSV];rfl)
  (fun W hW=>by
    rw[←hSV]
    refine run_firstCells_some (P:=prog) W 1 1 _ _ _ [NV] rfl (fun j u hj=>?_)
    cases j with
    |zero =>
     obtain rfl:NV=u:=by simpa using hj
     show W.cell? ⟨w.heap.size,0+0,none⟩=_
     simp[World.cell?,hW,hhN]
    |succ j=>simp at hj) (fun u hu=>by
    obtain rfl:u=NV:=by simpa using hu
    rw[←hNV];rfl) (by omega)
 refine Q2C rfl rfl (Qkm (x:=.tmp 20) (y:=.tmp 22) rfl (by
  rw[show a7.eval (.tmp 20)=y by rw[A7.ev];rfl,show a7.eval (.tmp 22)=SV by rw[A7.ev];rfl]
  exact hrA)) ?_
 show wpOps _ _ _ [8,9,10] (a7.put (some 23) v') w2
 have A8:=A7.put (d:=23) (by decide) v'
 generalize a7.put (some 23) v'=a8 at A8 ⊢
 refine Q2C rfl rfl (Q6V (x:=.tmp 16) (ad:=⟨b,i.toNat * 2+0,none⟩) rfl (by rw[A8.ev,hPV];rfl)) ?_
 rw[hPV]
 show wpOps _ _ _ [9,10] (a8.put (some 24) PV) w2
 have A9:=A8.put (d:=24) (by decide) PV
 generalize a8.put (some 24) PV=a9 at A9 ⊢
 refine Q2C rfl rfl (Q6T Q6O (x:=.tmp 24) (off:=1) (t:=25) rfl (by kernel_rfl) (by kernel_rfl) (b:=b) (u:=i.toNat * 2+0) (by rw[A9.ev,hPV];rfl)) ?_
 rw[Nat.add_zero,hFV]
 show wpOps _ _ _ [10] (a9.put (some 25) FV) w2
 have A10:=A9.put (d:=25) (by decide) FV
 generalize a9.put (some 25) FV=a10 at A10 ⊢
 have hh2:w2.heap[b]?=w.heap[b]?:=by
  rw[hg.block b (Nat.lt_of_lt_of_le hbl hB1.size) (fun e=>hyne e.symm),hold b hbl]
 have hv'1:v'.oneCell'=true:=by
  rcases ho2.2 with ⟨_,h00⟩|⟨b',cap',cur',rfl,_⟩
  ·omega
  ·rfl
 refine QeH (w':=w2.setCells b (i.toNat * 2+1) [v']) rfl rfl (Qej Q6O (x:=.tmp 25) (y:=.tmp 23) rfl (by kernel_rfl) (by kernel_rfl) (by rw[A10.ev,hFV];rfl) (by rw[A10.ev];rfl) hv'1 (z:=y)
  (by rw[World.cell?_of_block (w:=w) hh2];exact hcell) (by simp[World.frozen?,hh2,hhB])) ?_
 obtain⟨g3,M3,S3,R3⟩:=QjT M hk hRB hx hcell hown hal hus hyb (n:=n) hB1 (hNV ▸ hek ▸ ho2) hg hvb hc2
 generalize hw3:w2.setCells b (i.toNat * 2+1) [v']=w3 at M3 S3 R3 ⊢
 have hb3:(ob.set k (.row Q5C 2 false (0+1) (xs.set i.toNat (.agg [a,.slc 1 (us++[.val (.int .i64 n)])]))))[0]?=some (.box [bs,tp,.row k 0]):=by
  rw[List.getElem?_set_ne hk0];exact hb
 have hl0:g3.loc 0=g.loc 0:=S3.ext.loc 0 (Qb hb)
 have hh3:w3.heap[g.loc 0]?=some (.cells cur T0 (0,0)):=by
  have hlt:=(M.own _ _ hG0).1
  rw[←hw3,Q1G (k:=0) h0ne,hg.block _ (Nat.lt_of_lt_of_le hlt hB1.size) (fun e=>h0ny e.symm),hold _ hlt]
  exact hh0
 have M4:=M3.store hb3 (off:=2) (vs:=[Value.slice (some ⟨b,0,none⟩) xs.length cap]) (us:=[.row k 1]) ⟨rfl,fun j y' u' hy' hu'=>by
  cases j with
  |zero =>
   obtain rfl:Value.slice (some ⟨b,0,none⟩) xs.length cap=y':=by simpa using hy'
   obtain rfl:AV.row k 1=u':=by simpa using hu'
   exact⟨⟨rfl,Q5C,2,false,1,_,List.getElem?_set_self (Qb hk),Nat.le_refl _,fun _=>by
    have hlx:(xs.set i.toNat (.agg [a,.slc 1 (us++[.val (.int .i64 n)])])).length=xs.length:=by rw[List.length_set]
    exact R3⟩,rfl⟩
  |succ j=>simp at hy'⟩ (Nat.le_refl _)
 have S4:=Step.store M3 hb3 2 [Value.slice (some ⟨b,0,none⟩) xs.length cap] [bs,tp,.row k 1]
 rw[hl0,Qaw hh3 (by rw[←Array.getElem?_toList];exact hv)] at M4 S4
 show bodyPost _ _ _ .normal _ _
 subst hNV
 exact⟨A10.defers,_,QbW rfl _ _,_,g3,rfl,M4,⟨#[],rfl,rfl,fun j y' u' h=>by simp at h⟩,(h0.trans S3).trans S4⟩
end Go.Proofs.YthbjpdijafccjaaGreat
namespace Go.Proofs.YthbjpdijafccjaaGreat
open Go.RowKit Go.Lib Tryz
structure Node where
 kind:Int
 width:Int
 count:Int
 leaf:Bool
 b:List UInt8
 kids:List Int
 deriving Inhabited
def Node.av (x:Node):AV:=.agg [.val (.int .i64 x.kind),.val (.int .i64 x.width),.val (.int .i64 x.count),.val (.bool x.leaf),.slc 1 (Q2 x.b),.slc 1 (Q8 x.kids)]
def Q7 (l:List Node):List AV:=l.map Node.av
theorem Q1g (l:List Node):(Q7 l).length=l.length:=by simp[Q7]
def Q8q:Node:=⟨0,0,0,false,[],[]⟩
def Qj (l:List Node)(n:Int):Node:=if 0≤n∧n<l.length then l[n.toNat]?.getD Q8q else Q8q
theorem Q7w {l:List Node}{n:Int}(h0:0≤n)(h1:n<l.length):(Q7 l)[n.toNat]?.getD .dead=(Qj l n).av:=by
 rw[Qj,if_pos ⟨h0,h1⟩]
 exact QdA Node.av h0 h1 Q8q
theorem Qmr (l:List Node):BCall prog 47 [.ref [.slc 6 (Q7 l)]] [] (.val (.int .i64 l.length)) []:=by
 refine fnN (cs:=cs0) func47 rfl (by kernel_rfl) ?_
 intro w0 g0
 generalize hp:std=p,hxs:Q7 l=xs
 generalize hT:Q5 p tys (cs0) _ _ _ _=T
 cbv at hT
 subst hT
 simp only[Tree.ok,Q1,S0]
 subst hp hxs
 refine⟨by simp[std,Q3p,Q2o],.pure rfl (.inl ?_)⟩
 simp[std,Q2o,Q7]
def QjK (len:List AV→Int):Nat→List AV→List Ob→Option (AV×List Ob):=fun f args _=>match f,args with
 |47,[.ref [.slc 6 xs]]=>some (.val (.int .i64 (len xs)),[])
 |_,_=>none
def Q50 (xs:List AV):Int:=xs.length
theorem Qaz (l:List Node):BCall prog 47 [.ref [.slc 6 (Q7 l)]] [] (.val (.int .i64 (Q50 (Q7 l)))) []:=by
 have:=Qmr l
 rw[←Q1g] at this
 exact this
theorem Qm1 (l:List Node)(n:Int):BCall prog 48 [.ref [.slc 6 (Q7 l)],.val (.int .i64 n)] [] (Qj l n).av []:=by
 refine fnN (cs:=QjK Q50) func48 rfl (by kernel_rfl) ?_
 intro w0 g0
 generalize hp:std=p,hlen:Q50=len,hxs:Q7 l=xs
 generalize hT:Q5 p tys (QjK len) _ _ _ _=T
 cbv at hT
 subst hT
 simp only[Tree.ok,Q1,S0]
 subst hp hlen hxs
 have hlen:=Q1g l
 refine⟨fun h1=>.pure rfl ?_,fun h1=>⟨Qaz l,fun h2=>.pure rfl ?_,fun h2=>⟨?_,?_,?_,.pure rfl ?_⟩⟩⟩
 ·have h1:n<0:=by simpa[std] using h1
  have:¬ (0≤n∧n<l.length):=by omega
  simp[Qj,this,Node.av,Q8q,leA,Qeo,leL,leC,Q2,Q8]
 ·have h2:(l.length:Int)≤n:=by simpa[std,Q50,hlen] using h2
  have:¬ (0≤n∧n<l.length):=by omega
  simp[Qj,this,Node.av,Q8q,leA,Qeo,leL,leC,Q2,Q8]
 ·simp[std,Q3p,Q2o]
 all_goals
  have h1:0≤n:=by simpa[std] using h1
  have h2:n<l.length:=by simpa[std,Q50,hlen] using h2
  have hat:=Q7w h1 h2
 ·simp[std,Q2o,hlen,h1,h2]
 ·simp[std,Q3p,Q2o,hat,Node.av,AV.cells,intOf,Q5e]
 ·simp[std,Q3p,Q2o,hat,Node.av,AV.cells,intOf,Q5e,leA,Qeo,leL,leC]
def Qg1 (k w c:Int→Int)(lf:Int→Bool)(b s:Int→List AV):Nat→List AV→List Ob→Option (AV×List Ob):=fun f args _=>match f,args with
 |48,[.ref [.slc 6 _],.val (.int .i64 n)]=>some (.agg [.val (.int .i64 (k n)),.val (.int .i64 (w n)),.val (.int .i64 (c n)),.val (.bool (lf n)),.slc 1 (b n),.slc 1 (s n)],[])
 |60,[.slc 1 xs]=>some (.slc 1 xs,[])
 |107,[.slc 1 xs]=>some (.slc 1 xs,[])
 |28,[.slc 1 xs]=>some (.slc 1 xs,[])
 |_,_=>none
def Q19 (l:List Node)(n:Int):Int:=(Qj l n).kind
def QT (l:List Node)(n:Int):Int:=(Qj l n).width
def Q2m (l:List Node)(n:Int):Int:=(Qj l n).count
def Qbc (l:List Node)(n:Int):Bool:=(Qj l n).leaf
def bN (l:List Node)(n:Int):List AV:=Q2 (Qj l n).b
def Q2e (l:List Node)(n:Int):List AV:=Q8 (Qj l n).kids
theorem Qlx (l:List Node)(n:Int):BCall prog 22 [.ref [.slc 6 (Q7 l)],.val (.int .i64 n)] [] (.val (.int .i64 (Qj l n).kind)) []:=by
 refine fnN (cs:=Qg1 (Q19 l) (QT l) (Q2m l) (Qbc l) (bN l) (Q2e l)) func22 rfl (by kernel_rfl) ?_
 intro w0 g0
 generalize hp:std=p,hk:Q19 l=k,hw:QT l=w,hc:Q2m l=c,hlf:Qbc l=lf,hb:bN l=b,hs:Q2e l=s,hxs:Q7 l=xs
 generalize hT:Q5 p tys (Qg1 k w c lf b s) _ _ _ _=T
 cbv at hT
 subst hT
 simp only[Tree.ok,Q1,S0]
 subst hp hk hw hc hlf hb hs hxs
 exact⟨Qm1 l n,.pure rfl (.inl rfl)⟩
theorem Qkv (l:List Node)(n:Int):BCall prog 45 [.ref [.slc 6 (Q7 l)],.val (.int .i64 n)] [] (.val (.int .i64 (Qj l n).width)) []:=by
 refine fnN (cs:=Qg1 (Q19 l) (QT l) (Q2m l) (Qbc l) (bN l) (Q2e l)) func45 rfl (by kernel_rfl) ?_
 intro w0 g0
 generalize hp:std=p,hk:Q19 l=k,hw:QT l=w,hc:Q2m l=c,hlf:Qbc l=lf,hb:bN l=b,hs:Q2e l=s,hxs:Q7 l=xs
 generalize hT:Q5 p tys (Qg1 k w c lf b s) _ _ _ _=T
 cbv at hT
 subst hT
 simp only[Tree.ok,Q1,S0]
 subst hp hk hw hc hlf hb hs hxs
 exact⟨Qm1 l n,.pure rfl (.inl rfl)⟩
theorem Qiv (l:List Node)(n:Int)(hn:(Qj l n).kids.length≤1000000000):BCall prog 44 [.ref [.slc 6 (Q7 l)],.val (.int .i64 n)] [] (.slc 1 (Q8 (Qj l n).kids)) []:=by
 refine fnN (cs:=Qg1 (Q19 l) (QT l) (Q2m l) (Qbc l) (bN l) (Q2e l)) func44 rfl (by kernel_rfl) ?_
 intro w0 g0
 generalize hp:std=p,hk:Q19 l=k,hw:QT l=w,hc:Q2m l=c,hlf:Qbc l=lf,hb:bN l=b,hs:Q2e l=s,hxs:Q7 l=xs
 generalize hT:Q5 p tys (Qg1 k w c lf b s) _ _ _ _=T
 cbv at hT
 subst hT
 simp only[Tree.ok,Q1,S0]
 subst hp hk hw hc hlf hb hs hxs
 exact⟨Qm1 l n,Qcr _ (by simpa[Q2e,Q8] using hn),.pure rfl (.inl rfl)⟩
theorem Qmx:BCall prog 12 [] [] (.box 0 0) [.box [.val (.slice none 0 0)]]:=by
 refine fnO true (cs:=cs0) (ord:=fun _=>.nil) func12 rfl (by kernel_rfl) ?_
 intro w0 g0
 generalize hp:std=p
 generalize hT:Q5 p tys (cs0) _ _ _ _=T
 cbv at hT
 subst hT
 simp only[Tree.ok,Q1,S0]
 subst hp
 exact⟨[some 0],.box 0 0,_,rfl,rfl,Nat.zero_le _,rfl,⟨rfl,rfl,trivial⟩,.inl rfl⟩
theorem Qll (xs:List AV)(hn:xs.length<1000000000)(k w c:Int)(lf:Bool)(b kids:List AV) :
  BCall prog 27 [.box 0 0,.agg [.val (.int .i64 k),.val (.int .i64 w),.val (.int .i64 c),.val (.bool lf),.slc 1 b,.slc 1 kids]] [.box [.row 1 0],.row 91 6 false 0 xs] (.val (.int .i64 xs.length)) [.box [.row 1 1],.row 91 6 false 1 (xs++[.agg [.val (.int .i64 k),.val (.int .i64 w),.val (.int .i64 c),.val (.bool lf),.slc 1 b,.slc 1 kids]])]:=by
 refine fnN (cs:=cs0) func27 rfl (by kernel_rfl) ?_
 intro w0 g0
 generalize hp:std=p
 generalize hT:Q5 p tys (cs0) _ _ _ _=T
 cbv at hT
 subst hT
 simp only[Tree.ok,Q1,S0]
 subst hp
 refine⟨?_,?_,[some 0,some 1],.val (.int .i64 xs.length),_,rfl,rfl,Nat.le_refl _,rfl,?_,.inl rfl⟩
 ·simp[std];omega
 ·show (-9223372036854775808:Int)≤_∧_≤(9223372036854775807:Int)
  simp[std];omega
 ·simp[Qe,std]
theorem Qlp (k w c:Int)(lf:Bool)(b kids:List AV) :
  BCall prog 27 [.box 0 0,.agg [.val (.int .i64 k),.val (.int .i64 w),.val (.int .i64 c),.val (.bool lf),.slc 1 b,.slc 1 kids]] [.box [.val (.slice none 0 0)]] (.val (.int .i64 0)) [.box [.row 1 1],.row 91 6 false 1 [.agg [.val (.int .i64 k),.val (.int .i64 w),.val (.int .i64 c),.val (.bool lf),.slc 1 b,.slc 1 kids]]]:=by
 refine fnN (cs:=cs0) func27 rfl (by kernel_rfl) ?_
 intro w0 g0
 generalize hp:std=p
 generalize hT:Q5 p tys (cs0) _ _ _ _=T
 cbv at hT
 subst hT
 simp only[Tree.ok,Q1,S0]
 subst hp
 refine⟨?_,?_,[some 0,some 3],.val (.int .i64 0),_,rfl,rfl,Nat.le_succ _,rfl,?_,.inl rfl⟩
 ·simp[std]
 ·show (-9223372036854775808:Int)≤_∧_≤(9223372036854775807:Int)
  simp[std]
 ·simp[Qe,std]
def Qu (kind:Int)(b:List UInt8):Node:=⟨kind,b.length,1,true,b,[]⟩
def Q6Z (p:Pr):Nat→List AV→List Ob→Option (AV×List Ob):=fun f args ob=>match f,args with
 |27,[.box 0 0,.agg [k,w,c,l,b,s]]=>match ob with
  | [.box [.row 1 0],.row 91 6 false 0 xs]=>some (.val (.int .i64 (p.len xs)),[.box [.row 1 1],.row 91 6 false 1 (p.app xs [.agg [k,w,c,l,match b with|.val (.slice none 0 0)=>.slc 1 []|b=>b,match s with|.val (.slice none 0 0)=>.slc 1 []|s=>s]])])
  | [.box [.val (.slice none 0 0)]]=>some (.val (.int .i64 0),[.box [.row 1 1],.row 91 6 false 1 [.agg [k,w,c,l,match b with|.val (.slice none 0 0)=>.slc 1 []|b=>b,match s with|.val (.slice none 0 0)=>.slc 1 []|s=>s]]])
  |_=>none
 |60,[.slc 1 xs]=>some (.slc 1 xs,[])
 |28,[.slc 1 xs]=>some (.slc 1 xs,[])
 |28,[.val (.slice none 0 0)]=>some (.slc 1 [],[])
 |_,_=>none
theorem Qjn (l:List Node)(hl:l.length<1000000000)(kind:Int)(b:List UInt8)(hb:b.length≤1000000000) :
  BCall prog 14 [.box 0 0,.val (.int .i64 kind),.slc 1 (Q2 b)] [.box [.row 1 0],.row 91 6 false 0 (Q7 l)] (.val (.int .i64 l.length)) [.box [.row 1 1],.row 91 6 false 1 (Q7 (l++[Qu kind b]))]:=by
 refine fnN (cs:=Q6Z std) func14 rfl (by kernel_rfl) ?_
 intro w0 g0
 generalize hp:std=p,hbs:Q2 b=bs,hxs:Q7 l=xs
 generalize hT:Q5 p tys (Q6Z p) _ _ _ _=T
 cbv at hT
 subst hT
 simp only[Tree.ok,Q1,S0]
 subst hp hbs hxs
 refine⟨Q7B _ (by simpa[Q2] using hb),?_,[some 0,some 1],.val (.int .i64 l.length),_,rfl,rfl,Nat.le_refl _,rfl,?_,.inl rfl⟩
 ·exact (Qll (Q7 l) (by simpa[Q7] using hl) kind _ 1 true (Q2 b) []).le ⟨.inl rfl,⟨.inl rfl,.inl rfl,.inl rfl,.inl rfl,.inl rfl,.inr (.inl ⟨rfl,_,rfl⟩),trivial⟩,trivial⟩
 ·simp[Qe,std,Q7,Qu,Node.av,Q2,Q8]
theorem QjG (kind:Int)(b:List UInt8)(hb:b.length≤1000000000) :
  BCall prog 14 [.box 0 0,.val (.int .i64 kind),.slc 1 (Q2 b)] [.box [.val (.slice none 0 0)]] (.val (.int .i64 0)) [.box [.row 1 1],.row 91 6 false 1 (Q7 [Qu kind b])]:=by
 refine fnN (cs:=Q6Z std) func14 rfl (by kernel_rfl) ?_
 intro w0 g0
 generalize hp:std=p,hbs:Q2 b=bs
 generalize hT:Q5 p tys (Q6Z p) _ _ _ _=T
 cbv at hT
 subst hT
 simp only[Tree.ok,Q1,S0]
 subst hp hbs
 refine⟨Q7B _ (by simpa[Q2] using hb),?_,[some 0,some 1],.val (.int .i64 0),_,rfl,rfl,Nat.le_succ _,rfl,?_,.inl rfl⟩
 ·exact (Qlp kind _ 1 true (Q2 b) []).le ⟨.inl rfl,⟨.inl rfl,.inl rfl,.inl rfl,.inl rfl,.inl rfl,.inr (.inl ⟨rfl,_,rfl⟩),trivial⟩,trivial⟩
 ·simp[Qe,std,Q7,Qu,Node.av,Q2,Q8]
def Q1Z (l:List Node)(ks:List Int):Int:=(ks.map (QT l)).sum
def cnt (l:List Node)(ks:List Int):Int:=ks.foldl (fun c k=>min (c+Q2m l k) 2147483647) 1
def Q1e (l:List Node)(kind:Int)(ks:List Int):Node:=⟨kind,Q1Z l ks,cnt l ks,false,[],ks⟩
theorem Q5b {l:List Node}(hw:∀ n,0≤QT l n)(ks:List Int):0≤Q1Z l ks:=by
 induction ks with
 |nil=>simp[Q1Z]
 |cons k r ih=>have:=hw k;simp only[Q1Z,List.map_cons,List.sum_cons] at ih ⊢;omega
theorem Q8H {l:List Node}(hw:∀ n,0≤QT l n)(ks:List Int)(n:Nat):Q1Z l (ks.take n)≤Q1Z l ks:=by
 have h:=Q5b hw (ks.drop n)
 have e:Q1Z l ks=Q1Z l (ks.take n)+Q1Z l (ks.drop n):=by
  rw[Q1Z,Q1Z,Q1Z,←List.sum_append,←List.map_append,List.take_append_drop]
 omega
theorem Q7Z {l:List Node}(hc:∀ n,0≤Q2m l n∧Q2m l n≤2147483647)(ks:List Int):0≤cnt l ks∧cnt l ks≤2147483647:=by
 have key:∀ (ks:List Int) (c:Int),0≤c∧c≤2147483647→0≤ks.foldl (fun c k=>min (c+Q2m l k) 2147483647) c∧ks.foldl (fun c k=>min (c+Q2m l k) 2147483647) c≤2147483647:=by
  intro ks
  induction ks with
  |nil=>intro c h;exact h
  |cons k r ih=>intro c h;have:=hc k;exact ih (min (c+Q2m l k) 2147483647) (by omega)
 exact key ks 1 (by omega)
theorem QcF (l:List Node)(hl:l.length<1000000000)(kind:Int)(ks:List Int)(hks:ks.length≤1000000000)(hin:∀ k∈ks,0≤k∧k<l.length)(hw:∀ n,0≤QT l n)(hc:∀ n,0≤Q2m l n∧Q2m l n≤2147483647)(hsum:Q1Z l ks≤2147483647) :
  BCall prog 32 [.box 0 0,.val (.int .i64 kind),.slc 1 (Q8 ks)] [.box [.row 1 0],.row 91 6 false 0 (Q7 l)] (.tup [.val (.int .i64 l.length),.val (.int .i64 0)]) [.box [.row 1 1],.row 91 6 false 1 (Q7 (l++[Q1e l kind ks]))]:=by
 refine fnN (cs:=Q6Z std) func32 rfl (by kernel_rfl) ?_
 intro w0 g0
 generalize hp:std=p,hks':Q8 ks=ks',hxs:Q7 l=xs
 generalize hT:Q5 p tys (Q6Z p) _ _ _ _=T
 cbv at hT
 subst hT
 simp only[Tree.ok,Q1,S0]
 subst hp hks' hxs
 refine⟨Qcr _ (by simpa[Q8] using hks),?_⟩
 obtain⟨n,hn⟩:=Qy ks
 refine Q1r (cs:=Q6Z std) (by kernel_rfl) (X:=Int) (fun i=>⟨[(0,.box 0 0),(8,.box 2 0),(9,.val (.bool false)),(18,.slc 1 (Q8 ks)),(19,.val (.int .i64 n)),(20,.val (.int .i64 i))],[.box [.row 1 0],.row 91 6 false 0 (Q7 l),.box [.val (.int .i64 kind),.val (.int .i64 (Q1Z l (ks.take i.toNat))),.val (.int .i64 (cnt l (ks.take i.toNat))),.val (.bool false),.val (.slice none 0 0),.slc 1 (Q8 ks)]]⟩) (fun i=>0≤i∧i≤n) (fun i=>(n-i).toNat) 0 ?_ ?_ ?_
 ·have:=hn.eq
  omega
 ·exact⟨[some 0,some 1,some 2],_,rfl,by simp[Qe,lk,Q1Z,cnt,std,Q8,hn.eq]⟩
 ·rintro i ⟨hi1,hi2⟩
  have en:=hn.eq
  have hks':=Q26 ks
  have hls:=Q1g l
  rcases Int.lt_or_eq_of_le hi2 with hlt|heq
  ·have hat:=Q2r (l:=ks) hi1 (en ▸ hlt)
   have hmem:ks[i.toNat]?.getD 0∈ks:=by
    have:i.toNat<ks.length:=by omega
    simp[this]
   have ht:ks.take (i+1).toNat=ks.take i.toNat++[ks[i.toNat]?.getD 0]:=by
    have:i.toNat<ks.length:=by omega
    rw[show (i+1).toNat=i.toNat+1 by omega,List.take_add_one]
    simp[this]
   have hW2:Q1Z l (ks.take (i+1).toNat)=Q1Z l (ks.take i.toNat)+QT l (ks[i.toNat]?.getD 0):=by rw[ht];simp[Q1Z]
   have hC2:cnt l (ks.take (i+1).toNat)=min (cnt l (ks.take i.toNat)+Q2m l (ks[i.toNat]?.getD 0)) 2147483647:=by rw[ht];simp[cnt,List.foldl_append]
   obtain⟨hk0,hk1⟩:=hin _ hmem
   obtain⟨k,hk⟩:=exq (ks[i.toNat]?.getD 0)
   rw[←hk] at hat hW2 hC2 hk0 hk1
   have hnd:=Q7w hk0 hk1
   have hWl:Q1Z l (ks.take i.toNat)+QT l k≤2147483647:=by
    rw[←hW2]
    exact Int.le_trans (Q8H hw _ _) hsum
   have hW0:0≤Q1Z l (ks.take i.toNat):=Q5b hw _
   have hC0:=Q7Z hc (ks.take i.toNat)
   have hwk:=hw k
   have hck:=hc k
   simp only[QT,Q2m] at hW2 hC2 hWl hwk hck
   obtain⟨W,hW⟩:=exq (Q1Z l (ks.take i.toNat))
   obtain⟨C,hC⟩:=exq (cnt l (ks.take i.toNat))
   rw[←hW] at hW2 hWl hW0 ⊢
   rw[←hC] at hC2 hC0 ⊢
   clear en
   generalize hp:std=p,hkv:Q8 ks=kv,hxs:Q7 l=xs
   generalize hT:Q5 p tys (Q6Z p) _ _ _ _=T
   cbv at hT
   subst hT
   simp only[Tree.ok,Q1,S0]
   subst hp hkv hxs
   have en:=hn.eq
   replace hk1:k<(l.length:Int):=hk1
   repeat' first
    |(with_reducible refine And.intro (fun hx=>absurd hx (by first|(try simp[std,S1,hat,hks',hls,hnd,hk0,hk1,Node.av,hlt])<;>omega|omega)) (fun _=>?_))
    |(with_reducible refine And.intro (fun _=>?_) (fun hx=>absurd hx (by first|(try simp[std,S1,hat,hks',hls,hnd,hk0,hk1,Node.av,hlt])<;>omega|omega)))
    |(with_reducible refine And.intro (by first|(try simp[std,S1,hat,hks',hls,hnd,hk0,hk1,Node.av,hlt])<;>omega|omega) ?_)
    |(with_reducible refine And.intro ?_ ?_)
    |(with_reducible intro hb)
   all_goals exact⟨i+1,⟨by omega,by omega⟩,by omega,[some 0,some 1,some 2],_,rfl,by simp[Qe,lk,std,hat,hnd,Node.av,AV.cells,intOf,hW2,hC2];omega⟩
  ·have ht:ks.take i.toNat=ks:=List.take_of_length_le (by omega)
   rw[ht]
   have hW0:=Q5b hw ks
   have hC0:=Q7Z hc ks
   have hB:Q1e l kind ks=⟨kind,Q1Z l ks,cnt l ks,false,[],ks⟩:=rfl
   obtain⟨W,hW⟩:=exq (Q1Z l ks)
   obtain⟨C,hC⟩:=exq (cnt l ks)
   rw[←hW] at hW0 hB ⊢
   rw[←hC] at hC0 hB ⊢
   clear en
   generalize hp:std=p,hkv:Q8 ks=kv,hxs:Q7 l=xs
   generalize hT:Q5 p tys (Q6Z p) _ _ _ _=T
   cbv at hT
   subst hT
   simp only[Tree.ok,Q1,S0]
   subst hp hkv hxs
   repeat' first
    |(with_reducible refine And.intro (fun hx=>absurd hx (by first|(try simp[std,S1,heq])<;>omega|omega)) (fun _=>?_))
    |(with_reducible refine And.intro (fun _=>?_) (fun hx=>absurd hx (by first|(try simp[std,S1,heq])<;>omega|omega)))
    |(with_reducible refine And.intro (by first|(try simp[std,S1,heq])<;>omega|omega) ?_)
    |(with_reducible refine And.intro ?_ ?_)
    |(with_reducible intro hb)
   rw[if_pos trivial]
   generalize hBv:Q1e l kind ks=B at hB ⊢
   generalize hp:std=p,hkv:Q8 ks=kv,hxs:Q7 l=xs
   generalize hT:Q5 p tys (Q6Z p) _ _ _ _=T
   cbv at hT
   subst hT
   simp only[Tree.ok,Q1,S0]
   subst hp hkv hxs
   refine⟨?_,[some 0,some 1],.tup [.val (.int .i64 l.length),.val (.int .i64 0)],_,rfl,rfl,Nat.le_refl _,rfl,?_,?_⟩
   ·exact (Qll (Q7 l) (by simpa[Q7] using hl) kind W C false [] (Q8 ks)).le ⟨.inl rfl,⟨.inl rfl,.inl rfl,.inl rfl,.inl rfl,.inr (.inl ⟨rfl,_,rfl⟩),.inl rfl,trivial⟩,trivial⟩
   ·simp[Qe,std,hls,Q7,hB,Node.av,Q2,Q8]
   ·exact⟨.inl rfl,.inl rfl,trivial⟩
def Wf (l:List Node):Prop:=∀ n:Int,0≤n→n<l.length→∀ k∈(Qj l n).kids,0≤k∧k<n
def prF (l:List Node):Nat→Int→List UInt8
 |0,_=>[]
 |f+1,n=>(Qj l n).b++(Qj l n).kids.flatMap (prF l f)
def pr (l:List Node)(n:Int):List UInt8:=prF l (n.toNat+1) n
def coF (l:List Node):Nat→Int→Nat
 |0,_=>1
 |f+1,n=>1+((Qj l n).kids.map (coF l f)).sum
def co (l:List Node)(n:Int):Nat:=coF l (n.toNat+1) n
theorem Qd4 {l:List Node}(hw:Wf l):∀ (f f':Nat) (n:Int),0≤n→n<l.length→n.toNat<f→n.toNat<f'→prF l f n=prF l f' n
 |0,_,_,_,_,h,_=>by omega
 |_+1,0,_,_,_,_,h=>by omega
 |f+1,f'+1,n,h0,h1,h2,h3=>by
  simp only[prF]
  congr 1
  refine congrArg List.flatten (List.map_congr_left fun k hk=>?_)
  have:=hw n h0 h1 k hk
  exact Qd4 hw f f' k this.1 (by omega) (by omega) (by omega)
theorem Qfd {l:List Node}(hw:Wf l){n:Int}(h0:0≤n)(h1:n<l.length):pr l n=(Qj l n).b++(Qj l n).kids.flatMap (pr l):=by
 show prF l (n.toNat+1) n=_
 simp only[prF]
 congr 1
 refine congrArg List.flatten (List.map_congr_left fun k hk=>?_)
 have:=hw n h0 h1 k hk
 exact Qd4 hw _ _ k this.1 (by omega) (by omega) (by omega)
theorem QdE {l:List Node}(hw:Wf l):∀ (f f':Nat) (n:Int),0≤n→n<l.length→n.toNat<f→n.toNat<f'→coF l f n=coF l f' n
 |0,_,_,_,_,h,_=>by omega
 |_+1,0,_,_,_,_,h=>by omega
 |f+1,f'+1,n,h0,h1,h2,h3=>by
  simp only[coF]
  congr 2
  refine List.map_congr_left fun k hk=>?_
  have:=hw n h0 h1 k hk
  exact QdE hw f f' k this.1 (by omega) (by omega) (by omega)
theorem QfJ {l:List Node}(hw:Wf l){n:Int}(h0:0≤n)(h1:n<l.length):co l n=1+((Qj l n).kids.map (co l)).sum:=by
 show coF l (n.toNat+1) n=_
 simp only[coF]
 congr 2
 refine List.map_congr_left fun k hk=>?_
 have:=hw n h0 h1 k hk
 exact QdE hw _ _ k this.1 (by omega) (by omega) (by omega)
def QgH (l:List Node):Prop:=∀ n:Int,0≤n→n<l.length→(Qj l n).width=(pr l n).length
def Qdn (len:List AV→Int):Nat→List AV→List Ob→Option (AV×List Ob):=QjK len
def prS (l:List Node)(st:List Int):List UInt8:=st.reverse.flatMap (pr l)
def coS (l:List Node)(st:List Int):Nat:=(st.map (co l)).sum
def kS (l:List Node)(ks:List Int):List Int:=(ks.filter fun k=>decide (0<QT l k)).reverse
theorem Qhu (l:List Node)(n:Int):1≤co l n:=by
 show 1≤coF l (n.toNat+1) n
 simp only[coF];omega
theorem Qfa {l:List Node}(st:List Int):st.length≤coS l st:=by
 induction st with
 |nil=>simp[coS]
 |cons k r ih=>have:=Qhu l k;simp only[coS,List.map_cons,List.sum_cons,List.length_cons] at ih ⊢;omega
theorem QeT (l:List Node)(hl:l.length≤1000000000)(hw:Wf l)(hwd:QgH l)(n:Int)(h0:0≤n)(h1:n<l.length)(hp:(pr l n).length≤1000000)(hc:co l n≤1000000) :
  BCall prog 43 [.ref [.slc 6 (Q7 l)],.val (.int .i64 n)] [] (.slc 1 (Q2 (pr l n))) []:=by
 obtain⟨m,hm⟩:=Qy l
 have h1m:n<m:=by rw[hm.eq];exact h1
 refine fnN (cs:=Qdn Q50) func43 rfl (by kernel_rfl) ?_
 intro w0 g0
 clear h1
 generalize hp:std=p,hlen:Q50=len,hxs:Q7 l=xs
 generalize hT:Q5 p tys (Qdn len) _ _ _ _=T
 cbv at hT
 subst hT
 simp only[Tree.ok,Q1,S0]
 subst hp hlen hxs
 have em:=hm.eq
 repeat' first
  |(with_reducible refine And.intro (fun hx=>absurd hx (by first|(try simp[std,S1,Q50,Q1g l,h0,Qaz l])<;>omega|omega)) (fun _=>?_))
  |(with_reducible refine And.intro (fun _=>?_) (fun hx=>absurd hx (by first|(try simp[std,S1,Q50,Q1g l,h0,Qaz l])<;>omega|omega)))
  |(with_reducible refine And.intro (by first|(try simp[std,S1,Q50,Q1g l,h0,Qaz l])<;>omega|omega) ?_)
  |(with_reducible refine And.intro ?_ ?_)
  |(with_reducible intro hb)
 ·exact Qaz l
 refine Q1r (cs:=Qdn Q50) (by kernel_rfl) (X:=List UInt8×List Int) (fun x=>⟨[(0,.ref [.slc 6 (Q7 l)]),(5,.row 0 0),(6,.row 1 0)],[.row 5 1 false 0 (Q2 x.1),.row 3 1 false 0 (Q8 x.2)]⟩) (fun x=>x.1++prS l x.2=pr l n∧(∀ k∈x.2,0≤k∧k<m)∧coS l x.2≤1000000) (fun x=>coS l x.2) ([],[n]) ?_ ?_ ?_
 ·exact⟨by simp[prS],by simp[h0,h1m],by simpa[coS] using hc⟩
 ·exact⟨[none,some 0],_,rfl,by simp[Qe,lk,Q2,Q8,Qe8]⟩
 ·rintro⟨out,st⟩ ⟨hJ1,hJ2,hJ3⟩
  simp only at hJ1 hJ2 hJ3
  rcases List.eq_nil_or_concat st with rfl|⟨st',k,rfl⟩
  ·generalize hp:std=p,hlen:Q50=len,hxs:Q7 l=xs,ho:Q2 out=o
   generalize hT:Q5 p tys (Qdn len) _ _ _ _=T
   cbv at hT
   subst hT
   simp only[Tree.ok,Q1,S0]
   subst hp hlen hxs ho
   repeat' first
    |(with_reducible refine And.intro (fun hx=>absurd hx (by first|(try simp[std,S1,Q8])<;>omega|omega)) (fun _=>?_))
    |(with_reducible refine And.intro (fun _=>?_) (fun hx=>absurd hx (by first|(try simp[std,S1,Q8])<;>omega|omega)))
    |(with_reducible refine And.intro (by first|(try simp[std,S1,Q8])<;>omega|omega) ?_)
    |(with_reducible refine And.intro ?_ ?_)
    |(with_reducible intro hb)
   rw[if_pos trivial]
   generalize hp:std=p,hxs:Q7 l=xs,ho:Q2 out=o
   generalize hT:Q5 p tys (QjK _) _ _ _ _=T
   cbv at hT
   subst hT
   simp only[Tree.ok,Q1,S0]
   subst hp hxs ho
   refine .pure rfl (.inl ?_)
   rw[←hJ1];simp[prS]
  ·rw[List.concat_eq_append] at hJ1 hJ2 hJ3 ⊢
   obtain⟨hk0,hkm⟩:=hJ2 k (by simp)
   have hk1:k<(l.length:Int):=by omega
   have hnd:=Q7w hk0 hk1
   have hss:(Q8 (st'++[k])).length=st'.length+1:=by simp[Q8]
   have hat:(Q8 (st'++[k]))[st'.length]?.getD .dead=.val (.int .i64 k):=by simp[Q8,Qe8]
   have hat2:∀ h:st'.length<(Q8 (st'++[k])).length,(Q8 (st'++[k]))[st'.length]'h=.val (.int .i64 k):=fun h=>by simp[Q8,Qe8]
   have hcut:(Q8 (st'++[k])).take st'.length=Q8 st':=by
    rw[show Q8 (st'++[k])=Q8 st'++[Qe8 k] by simp[Q8]]
    exact List.take_left' (by simp[Q8])
   have hls:=Q1g l
   have hpk:=Qfd hw hk0 hk1
   have hck:=QfJ hw hk0 hk1
   have hpr:pr l n=out++((Qj l k).b++((Qj l k).kids.flatMap (pr l)++prS l st')):=by
    rw[←hJ1,prS,List.reverse_append,List.flatMap_append]
    simp[hpk,prS,List.append_assoc]
   have hkin:∀ j∈(Qj l k).kids,0≤j∧j<m:=fun j hj=>by
    have:=hw k hk0 hk1 j hj
    exact⟨this.1,by omega⟩
   have hco:coS l st'+(1+((Qj l k).kids.map (co l)).sum)≤1000000:=by
    rw[coS,List.map_append,List.sum_append] at hJ3
    simpa[coS,hck] using hJ3
   have hco2:coS l (st'++[k])=coS l st'+(1+((Qj l k).kids.map (co l)).sum):=by
    rw[coS,List.map_append,List.sum_append]
    simp[coS,hck]
   have hob:out.length+(Qj l k).b.length≤1000000:=by
    have:=congrArg List.length hpr
    simp only[List.length_append] at this
    omega
   have hsl:=Qfa (l:=l) st'
   have hkl:(Qj l k).kids.length≤((Qj l k).kids.map (co l)).sum:=Qfa (Qj l k).kids
   obtain⟨nd,hndE⟩:=exq (Qj l k)
   rw[←hndE] at hnd hpr hkin hco hco2 hob hkl
   have hbl:=Q10 nd.b
   have hol:=Q10 out
   have hkid:=Q26 nd.kids
   clear em
   generalize hp:std=p,hlen:Q50=len,hxs:Q7 l=xs,ho:Q2 out=o,hss:Q8 (st'++[k])=ss
   generalize hT:Q5 p tys (Qdn len) _ _ _ _=T
   cbv at hT
   subst hT
   simp only[Tree.ok,Q1,S0]
   subst hp hlen hxs ho hss
   have em:=hm.eq
   repeat' first
    |(with_reducible refine And.intro (fun hx=>absurd hx (by first|(try simp[std,S1,hss,hat,hat2,hcut,hls,hnd,Node.av,hk0,hk1,hbl,hol,hkid])<;>omega|omega)) (fun _=>?_))
    |(with_reducible refine And.intro (fun _=>?_) (fun hx=>absurd hx (by first|(try simp[std,S1,hss,hat,hat2,hcut,hls,hnd,Node.av,hk0,hk1,hbl,hol,hkid])<;>omega|omega)))
    |(with_reducible refine And.intro (by first|(try simp[std,S1,hss,hat,hat2,hcut,hls,hnd,Node.av,hk0,hk1,hbl,hol,hkid])<;>omega|omega) ?_)
    |(with_reducible refine And.intro ?_ ?_)
    |(with_reducible intro hb)
   obtain⟨nk,hnk⟩:=Qy nd.kids
   refine Q1r (cs:=Qdn Q50) (by kernel_rfl) (X:=Int) (fun j=>⟨[(0,.ref [.slc 6 (Q7 l)]),(5,.row 0 0),(6,.row 1 0),(7,.box 2 0),(8,.val (.int .i64 j))],[.row 5 1 false 0 (Q2 (out++nd.b)),.row 3 1 false 0 (Q8 (st'++kS l (nd.kids.drop (j+1).toNat))),.box [.val (.int .i64 nd.kind),.val (.int .i64 nd.width),.val (.int .i64 nd.count),.val (.bool nd.leaf),.slc 1 (Q2 nd.b),.slc 1 (Q8 nd.kids)]]⟩) (fun j=>-1≤j∧j<nk) (fun j=>(j+1).toNat) (nk-1) ?_ ?_ ?_
   ·have:=hnk.eq
    omega
   ·have en:=hnk.eq
    refine⟨[some 0,some 1,some 2],_,rfl,?_⟩
    have e1:nd.kids.drop (nk-1+1).toNat=[]:=List.drop_eq_nil_of_le (by omega)
    simp[Qe,lk,std,hss,hat,hat2,hcut,hls,hnd,Node.av,AV.cells,intOf,Q5e,Q2o,hk0,hk1,hkid,en,e1]
    exact⟨by simp[Q2],by simp[kS]⟩
   ·rintro j ⟨hj1,hj2⟩
    have en:=hnk.eq
    rcases Int.lt_or_eq_of_le hj1 with hlt|heq
    ·have hj0:0≤j:=by omega
     have hjk:j.toNat<nd.kids.length:=by omega
     have hat:=Q2r (l:=nd.kids) hj0 (by omega)
     have hdrop:nd.kids.drop j.toNat=nd.kids[j.toNat]?.getD 0::nd.kids.drop (j+1).toNat:=by
      rw[List.drop_eq_getElem_cons hjk,show (j+1).toNat=j.toNat+1 by omega]
      simp[hjk]
     have hq:=hkin (nd.kids[j.toNat]?.getD 0) (by simp[hjk])
     obtain⟨q,hqE⟩:=exq (nd.kids[j.toNat]?.getD 0)
     rw[←hqE] at hat hdrop hq
     have hq1:q<(l.length:Int):=by omega
     have hnq:=Q7w hq.1 hq1
     have hkS:kS l (nd.kids.drop j.toNat)=kS l (nd.kids.drop (j+1).toNat)++(if 0<(Qj l q).width then [q] else []):=by
      rw[hdrop,kS,List.filter_cons]
      by_cases h:0<QT l q
      ·have h':0<(Qj l q).width:=h
       simp[h,h',kS]
      ·have h':¬ 0<(Qj l q).width:=h
       simp[h,h',kS]
     have hsl2:(st'++kS l (nd.kids.drop (j+1).toNat)).length≤1000000:=by
      have h1:(kS l (nd.kids.drop (j+1).toNat)).length≤nd.kids.length:=by
       rw[kS,List.length_reverse]
       refine Nat.le_trans (List.length_filter_le _ _) ?_
       rw[List.length_drop];omega
      rw[List.length_append];omega
     have hol2:=Q10 (out++nd.b)
     have hil2:=Q26 (st'++kS l (nd.kids.drop (j+1).toNat))
     obtain⟨st2,hst2⟩:=exq (st'++kS l (nd.kids.drop (j+1).toNat))
     rw[←hst2] at hsl2 hil2 ⊢
     obtain⟨out2,hout2⟩:=exq (out++nd.b)
     rw[←hout2] at hol2 ⊢
     clear en em
     generalize hp:std=p,hlen:Q50=len,hxs:Q7 l=xs,ho:Q2 out2=o,hss:Q8 st2=ss,hbb:Q2 nd.b=bb,hkk:Q8 nd.kids=kk
     generalize hT:Q5 p tys (Qdn len) _ _ _ _=T
     cbv at hT
     subst hT
     simp only[Tree.ok,Q1,S0]
     subst hp hlen hxs ho hss hbb hkk
     have em:=hm.eq
     have en:=hnk.eq
     replace hq1:q<(l.length:Int):=hq1
     repeat' first
      |(with_reducible refine And.intro (fun hx=>absurd hx (by first|(try simp[std,S1,hat,hls,hnq,Node.av,hq.1,hq1,hj0,hkid,hil2])<;>omega|omega)) (fun _=>?_))
      |(with_reducible refine And.intro (fun _=>?_) (fun hx=>absurd hx (by first|(try simp[std,S1,hat,hls,hnq,Node.av,hq.1,hq1,hj0,hkid,hil2])<;>omega|omega)))
      |(with_reducible refine And.intro (by first|(try simp[std,S1,hat,hls,hnq,Node.av,hq.1,hq1,hj0,hkid,hil2])<;>omega|omega) ?_)
      |(with_reducible refine And.intro ?_ ?_)
      |(with_reducible intro hb)
     ·have hw0:0<(Qj l q).width:=by simpa[std,AV.cells,intOf,Q2o,hat,hls,hnq,Node.av,hq.1,hq1] using hb
      rw[if_pos hw0] at hkS
      refine⟨j-1,⟨by omega,by omega⟩,by omega,[some 0,some 1,some 2],_,rfl,?_⟩
      have e2:st'++kS l (nd.kids.drop (j-1+1).toNat)=st2++[q]:=by
       rw[show j-1+1=j by omega,hkS,←List.append_assoc,←hst2]
      rw[e2]
      simp[Qe,lk,std,AV.cells,intOf,Q2o,hat,hls,hnq,Node.av,hq.1,hq1,hout2,Q4s,Qcd]
     ·have hw0:¬ 0<(Qj l q).width:=by simpa[std,AV.cells,intOf,Q2o,hat,hls,hnq,Node.av,hq.1,hq1] using hb
      rw[if_neg hw0,List.append_nil] at hkS
      refine⟨j-1,⟨by omega,by omega⟩,by omega,[some 0,some 1,some 2],_,rfl,?_⟩
      have e2:st'++kS l (nd.kids.drop (j-1+1).toNat)=st2:=by
       rw[show j-1+1=j by omega,hkS,←hst2]
      rw[e2]
      simp[Qe,lk,std,AV.cells,intOf,Q2o,hat,hls,hnq,Node.av,hq.1,hq1,hout2]
    ·subst heq
     rw[show (-1+1:Int).toNat=0 from rfl,List.drop_zero]
     have hT1:(out++nd.b)++prS l (st'++kS l nd.kids)=pr l n:=by
      rw[hpr,prS,List.reverse_append,List.flatMap_append,prS]
      simp only[List.append_assoc]
      congr 2
      rw[kS,List.reverse_reverse]
      congr 1
      have key:∀ ks:List Int,(∀ q∈ks,0≤q∧q<m)→(ks.filter fun k=>decide (0<QT l k)).flatMap (pr l)=ks.flatMap (pr l):=by
       intro ks
       induction ks with
       |nil=>intro _;rfl
       |cons q r ih =>
        intro h
        have hr:=ih (fun q hq=>h q (List.mem_cons_of_mem _ hq))
        rw[List.filter_cons,List.flatMap_cons,←hr]
        by_cases hq:0<QT l q
        ·simp[hq]
        ·have h1:=h q (List.mem_cons_self ..)
         have h2:=hwd q h1.1 (by have:=hm.eq;omega)
         have h3:pr l q=[]:=by
          have:(pr l q).length=0:=by
           have h4:¬ 0<(Qj l q).width:=hq
           omega
          exact List.eq_nil_of_length_eq_zero this
         simp[hq,h3]
      exact key nd.kids hkin
     have hT2:∀ q∈st'++kS l nd.kids,0≤q∧q<m:=by
      intro q hq
      rcases List.mem_append.1 hq with h|h
      ·exact hJ2 q (List.mem_append_left _ h)
      ·rw[kS,List.mem_reverse] at h
       exact hkin q (List.mem_filter.1 h).1
     have hT3:coS l (st'++kS l nd.kids)<coS l (st'++[k]):=by
      rw[hco2,coS,List.map_append,List.sum_append]
      have h1:((kS l nd.kids).map (co l)).sum≤(nd.kids.map (co l)).sum:=by
       rw[kS,List.map_reverse,List.sum_reverse]
       generalize nd.kids=ks
       induction ks with
       |nil=>simp
       |cons q r ih =>
        rw[List.filter_cons]
        split<;>simp only[List.map_cons,List.sum_cons]<;>omega
      have h2:(st'.map (co l)).sum=coS l st':=rfl
      omega
     obtain⟨st2,hst2⟩:=exq (st'++kS l nd.kids)
     obtain⟨out2,hout2⟩:=exq (out++nd.b)
     rw[←hst2] at hT1 hT2 hT3 ⊢
     rw[←hout2] at hT1 ⊢
     clear en em
     generalize hp:std=p,hlen:Q50=len,hxs:Q7 l=xs,ho:Q2 out2=o,hss:Q8 st2=ss,hbb:Q2 nd.b=bb,hkk:Q8 nd.kids=kk
     generalize hT:Q5 p tys (Qdn len) _ _ _ _=T
     cbv at hT
     subst hT
     simp only[Tree.ok,Q1,S0]
     subst hp hlen hxs ho hss hbb hkk
     repeat' first
      |(with_reducible refine And.intro (fun hx=>absurd hx (by first|(try simp[std,S1,hls])<;>omega|omega)) (fun _=>?_))
      |(with_reducible refine And.intro (fun _=>?_) (fun hx=>absurd hx (by first|(try simp[std,S1,hls])<;>omega|omega)))
      |(with_reducible refine And.intro (by first|(try simp[std,S1,hls])<;>omega|omega) ?_)
      |(with_reducible refine And.intro ?_ ?_)
      |(with_reducible intro hb)
     rw[if_pos trivial]
     refine⟨(out2,st2),⟨hT1,hT2,by simp only;omega⟩,hT3,[some 0,some 1],_,rfl,?_⟩
     simp[Qe,lk]
def Q3J (s t:ByteArray):Bool:=decide (t.size≤s.size)&&(s.data.toList.take t.size == t.data.toList)
theorem QjX {s t:ByteArray}(h:t.size≤s.size):std.eqS (std.cutS s 0 (std.szS t)) t=Q3J s t:=by
 simp only[std,Q3J,h,decide_true,Bool.true_and,ByteArray.toList_eq]
 rw[show (0:Int).toNat=0 from rfl,Int.toNat_natCast,extract_from_zero]
theorem QmB (s t:ByteArray):BCall prog 70 [.val (.string s),.val (.string t)] [] (.val (.bool (Q3J s t))) []:=by
 refine fnN (cs:=cs0) func70 rfl (by kernel_rfl) ?_
 intro w0 g0
 generalize hp:std=p
 generalize hT:Q5 p tys (cs0) _ _ _ _=T
 cbv at hT
 subst hT
 simp only[Tree.ok,Q1,S0]
 subst hp
 refine⟨fun h=>⟨?_,.pure rfl (.inl ?_)⟩,fun h=>.pure rfl (.inl ?_)⟩
 ·have h:t.size≤s.size:=by simpa[std] using h
  simp[std];omega
 ·have h:t.size≤s.size:=by simpa[std] using h
  show AV.val (.bool (std.eqS (std.cutS s 0 (std.szS t)) t))=_
  rw[QjX h]
 ·have h:¬ t.size≤s.size:=by simpa[std] using h
  simp[Q3J,h]
def Q5O (pre:ByteArray→ByteArray→Bool):Nat→List AV→List Ob→Option (AV×List Ob):=fun f args _=>match f,args with
 |70,[.val (.string s),.val (.string t)]=>some (.val (.bool (pre s t)),[])
 |49,[.val (.string s),.val (.string t)]=>some (.val (.bool (pre s t)),[])
 |_,_=>none
theorem QiH (s t:ByteArray):BCall prog 49 [.val (.string s),.val (.string t)] [] (.val (.bool (Q3J s t))) []:=by
 refine fnN (cs:=Q5O Q3J) func49 rfl (by kernel_rfl) ?_
 intro w0 g0
 generalize hp:std=p,hpre:Q3J=pre
 generalize hT:Q5 p tys (Q5O pre) _ _ _ _=T
 cbv at hT
 subst hT
 simp only[Tree.ok,Q1,S0]
 subst hp hpre
 exact⟨QmB s t,.pure rfl (.inl rfl)⟩
def signsL:List (List UInt8×Int×Int):=[([254,255],1,2),([255,254],2,2),([239,187,191],0,3),([0,60,0,63],1,0),([60,0,63,0],2,0)]
def kR (pre:List UInt8→Bool)(k:Nat):Int×Int:=match (signsL.drop k).find? (fun x=>pre x.1) with
 |some x=>x.2
 |none=>(0,0)
def QQ (b:List UInt8):Int×Int:=kR (fun t=>t.isPrefixOf b) 0
theorem Q3e (l:List UInt8):(Q2 l).map Q2S=l:=by
 induction l with
 |nil=>rfl
 |cons x r ih=>rw[Q2,List.map_cons,List.map_cons];rw[Q2] at ih;rw[ih];simp[Q5M,Q2S]
theorem Q4u (l:List UInt8):std.isB (Q2 l):=fun x hx=>by
 obtain⟨n,_,rfl⟩:=List.mem_map.1 hx
 exact⟨n,rfl⟩
theorem QhU (b t:List UInt8)(h:t.length≤4):Q3J ⟨(b.take 4).toArray⟩ ⟨t.toArray⟩=t.isPrefixOf b:=by
 have e:Q3J ⟨(b.take 4).toArray⟩ ⟨t.toArray⟩=(decide (t.length≤(b.take 4).length)&&((b.take 4).take t.length == t)):=rfl
 rw[e,Bool.eq_iff_iff,List.isPrefixOf_iff_prefix,List.prefix_iff_eq_take]
 simp only[List.take_take,List.length_take,Bool.and_eq_true,decide_eq_true_eq,beq_iff_eq,Nat.min_eq_left h]
 constructor
 ·exact fun h=>h.2.symm
 ·intro h1
  have:t.length≤b.length:=by
   have:=congrArg List.length h1
   rw[List.length_take] at this
   omega
  exact⟨by omega,h1.symm⟩
theorem Qkx (b:List UInt8):BCall prog 25 [.slc 1 (Q2 b)] [] (.tup [.val (.int .i64 (QQ b).1),.val (.int .i64 (QQ b).2)]) []:=by
 refine fnN (cs:=Q5O Q3J) func25 rfl (by kernel_rfl) ?_
 intro w0 g0
 generalize hp:std=p,hpre:Q3J=pre,hbs:Q2 b=bs
 generalize hT:Q5 p tys (Q5O pre) _ _ _ _=T
 cbv at hT
 subst hT
 simp only[Tree.ok,Q1,S0]
 subst hp hpre hbs
 have hbl:=Q10 b
 have hmin:std.minI (std.len (Q2 b)) 4=if 4<(b.length:Int) then 4 else (b.length:Int):=by simp only[std,hbl]
 have hcut:std.cut (Q2 b) 0 (std.minI (std.len (Q2 b)) 4)=Q2 (b.take 4):=by
  rw[hmin]
  show ((Q2 b).drop (0:Int).toNat).take _=_
  rw[show (0:Int).toNat=0 from rfl,List.drop_zero,Q2,Q2,List.map_take]
  split
  ·rfl
  ·have:b.length≤4:=by omega
   rw[List.take_of_length_le (by simp),List.take_of_length_le (by simpa using this)]
 refine⟨?_,?_,?_⟩
 ·simp only[std,hbl]
  split<;>omega
 ·show std.isB (std.cut (Q2 b) 0 (std.minI (std.len (Q2 b)) 4))
  rw[hcut];exact Q4u _
 have hstr:std.strB (std.cut (Q2 b) 0 (std.minI (std.len (Q2 b)) 4))=⟨(b.take 4).toArray⟩:=by
  rw[hcut]
  show (⟨((Q2 (b.take 4)).map Q2S).toArray⟩:ByteArray)=_
  rw[Q3e]
 obtain⟨s,hs⟩:=exq (⟨(b.take 4).toArray⟩:ByteArray)
 have hpre:∀ t:List UInt8,t.length≤4→t.isPrefixOf b=Q3J s ⟨t.toArray⟩:=fun t h=>by rw[hs,QhU b t h]
 have hR:QQ b=kR (fun t=>Q3J s ⟨t.toArray⟩) 0:=by
  simp[QQ,kR,signsL,List.find?,hpre [254,255] (by decide),hpre [255,254] (by decide),hpre [239,187,191] (by decide),hpre [0,60,0,63] (by decide),hpre [60,0,63,0] (by decide)]
 rw[hR]
 obtain⟨R,hRE⟩:=exq (kR (fun t=>Q3J s ⟨t.toArray⟩) 0)
 rw[←hRE]
 obtain⟨R1,R2⟩:=R
 refine Q1r (cs:=Q5O Q3J) (by kernel_rfl) (X:=Int) (fun k=>⟨[(5,.val (.string s)),(20,.agg [.val (.string ⟨#[254,255]⟩),.val (.int .i64 1),.val (.int .i64 2),.val (.string ⟨#[255,254]⟩),.val (.int .i64 2),.val (.int .i64 2),.val (.string ⟨#[239,187,191]⟩),.val (.int .i64 0),.val (.int .i64 3),.val (.string ⟨#[0,60,0,63]⟩),.val (.int .i64 1),.val (.int .i64 0),.val (.string ⟨#[60,0,63,0]⟩),.val (.int .i64 2),.val (.int .i64 0)]),(21,.val (.int .i64 k))],[]⟩) (fun k=>0≤k∧k≤5∧(R1,R2)=kR (fun t=>Q3J s ⟨t.toArray⟩) k.toNat) (fun k=>(5-k).toNat) 0 ?_ ?_ ?_
 ·exact⟨by omega,by omega,hRE⟩
 ·refine⟨[],_,rfl,?_,?_⟩
  ·show AV.val (.string (std.strB (std.cut (Q2 b) 0 (std.minI (std.len (Q2 b)) 4))))=.val (.string s)
   rw[hstr,←hs]
  ·repeat first|exact trivial|refine⟨rfl,?_⟩
 ·rintro k ⟨hk0,hk5,hk⟩
  have hcs:k=0∨k=1∨k=2∨k=3∨k=4∨k=5:=by omega
  clear hR hpre hRE hstr hcut hbl hs hmin
  rcases hcs with rfl|rfl|rfl|rfl|rfl|rfl
  ·generalize hp:std=p,hpre:Q3J=pre
   generalize hT:Q5 p tys (Q5O pre) _ _ _ _=T
   cbv at hT
   subst hT
   simp only[Tree.ok,Q1,S0]
   subst hp hpre
   repeat' first
    |(with_reducible refine And.intro (fun hx=>absurd hx (by first|(try simp[std,S1,hk])<;>omega|omega)) (fun _=>?_))
    |(with_reducible refine And.intro (fun _=>?_) (fun hx=>absurd hx (by first|(try simp[std,S1,hk])<;>omega|omega)))
    |(with_reducible refine And.intro (by first|(try simp[std,S1,hk])<;>omega|omega) ?_)
    |(with_reducible refine And.intro ?_ ?_)
    |(with_reducible intro hb)
   ·exact QiH _ _
   ·generalize hp:std=p,hpre:Q3J=pre
    generalize hT:Q4N p tys _ _ _ _=T
    cbv at hT
    subst hT
    simp only[Tree.ok,Q1,S0]
    subst hp hpre
    simp[kR,signsL,List.find?,hb] at hk
    exact .pure rfl ⟨.inl (by rw[hk.1]),.inl (by rw[hk.2]),trivial⟩
   ·refine⟨1,⟨by omega,by omega,?_⟩,by omega,[],_,rfl,?_⟩
    ·rw[hk]
     simp only[kR,signsL,Int.reduceToNat,List.drop_succ_cons,List.drop_zero,List.find?_cons,hb]
    ·simp[Qe,lk,std]
  ·generalize hp:std=p,hpre:Q3J=pre
   generalize hT:Q5 p tys (Q5O pre) _ _ _ _=T
   cbv at hT
   subst hT
   simp only[Tree.ok,Q1,S0]
   subst hp hpre
   repeat' first
    |(with_reducible refine And.intro (fun hx=>absurd hx (by first|(try simp[std,S1,hk])<;>omega|omega)) (fun _=>?_))
    |(with_reducible refine And.intro (fun _=>?_) (fun hx=>absurd hx (by first|(try simp[std,S1,hk])<;>omega|omega)))
    |(with_reducible refine And.intro (by first|(try simp[std,S1,hk])<;>omega|omega) ?_)
    |(with_reducible refine And.intro ?_ ?_)
    |(with_reducible intro hb)
   ·exact QiH _ _
   ·generalize hp:std=p,hpre:Q3J=pre
    generalize hT:Q4N p tys _ _ _ _=T
    cbv at hT
    subst hT
    simp only[Tree.ok,Q1,S0]
    subst hp hpre
    simp[kR,signsL,List.find?,hb] at hk
    exact .pure rfl ⟨.inl (by rw[hk.1]),.inl (by rw[hk.2]),trivial⟩
   ·refine⟨2,⟨by omega,by omega,?_⟩,by omega,[],_,rfl,?_⟩
    ·rw[hk]
     simp only[kR,signsL,Int.reduceToNat,List.drop_succ_cons,List.drop_zero,List.find?_cons,hb]
    ·simp[Qe,lk,std]
  ·generalize hp:std=p,hpre:Q3J=pre
   generalize hT:Q5 p tys (Q5O pre) _ _ _ _=T
   cbv at hT
   subst hT
   simp only[Tree.ok,Q1,S0]
   subst hp hpre
   repeat' first
    |(with_reducible refine And.intro (fun hx=>absurd hx (by first|(try simp[std,S1,hk])<;>omega|omega)) (fun _=>?_))
    |(with_reducible refine And.intro (fun _=>?_) (fun hx=>absurd hx (by first|(try simp[std,S1,hk])<;>omega|omega)))
    |(with_reducible refine And.intro (by first|(try simp[std,S1,hk])<;>omega|omega) ?_)
    |(with_reducible refine And.intro ?_ ?_)
    |(with_reducible intro hb)
   ·exact QiH _ _
   ·generalize hp:std=p,hpre:Q3J=pre
    generalize hT:Q4N p tys _ _ _ _=T
    cbv at hT
    subst hT
    simp only[Tree.ok,Q1,S0]
    subst hp hpre
    simp[kR,signsL,List.find?,hb] at hk
    exact .pure rfl ⟨.inl (by rw[hk.1]),.inl (by rw[hk.2]),trivial⟩
   ·refine⟨3,⟨by omega,by omega,?_⟩,by omega,[],_,rfl,?_⟩
    ·rw[hk]
     simp only[kR,signsL,Int.reduceToNat,List.drop_succ_cons,List.drop_zero,List.find?_cons,hb]
    ·simp[Qe,lk,std]
  ·generalize hp:std=p,hpre:Q3J=pre
   generalize hT:Q5 p tys (Q5O pre) _ _ _ _=T
   cbv at hT
   subst hT
   simp only[Tree.ok,Q1,S0]
   subst hp hpre
   repeat' first
    |(with_reducible refine And.intro (fun hx=>absurd hx (by first|(try simp[std,S1,hk])<;>omega|omega)) (fun _=>?_))
    |(with_reducible refine And.intro (fun _=>?_) (fun hx=>absurd hx (by first|(try simp[std,S1,hk])<;>omega|omega)))
    |(with_reducible refine And.intro (by first|(try simp[std,S1,hk])<;>omega|omega) ?_)
    |(with_reducible refine And.intro ?_ ?_)
    |(with_reducible intro hb)
   ·exact QiH _ _
   ·generalize hp:std=p,hpre:Q3J=pre
    generalize hT:Q4N p tys _ _ _ _=T
    cbv at hT
    subst hT
    simp only[Tree.ok,Q1,S0]
    subst hp hpre
    simp[kR,signsL,List.find?,hb] at hk
    exact .pure rfl ⟨.inl (by rw[hk.1]),.inl (by rw[hk.2]),trivial⟩
   ·refine⟨4,⟨by omega,by omega,?_⟩,by omega,[],_,rfl,?_⟩
    ·rw[hk]
     simp only[kR,signsL,Int.reduceToNat,List.drop_succ_cons,List.drop_zero,List.find?_cons,hb]
    ·simp[Qe,lk,std]
  ·generalize hp:std=p,hpre:Q3J=pre
   generalize hT:Q5 p tys (Q5O pre) _ _ _ _=T
   cbv at hT
   subst hT
   simp only[Tree.ok,Q1,S0]
   subst hp hpre
   repeat' first
    |(with_reducible refine And.intro (fun hx=>absurd hx (by first|(try simp[std,S1,hk])<;>omega|omega)) (fun _=>?_))
    |(with_reducible refine And.intro (fun _=>?_) (fun hx=>absurd hx (by first|(try simp[std,S1,hk])<;>omega|omega)))
    |(with_reducible refine And.intro (by first|(try simp[std,S1,hk])<;>omega|omega) ?_)
    |(with_reducible refine And.intro ?_ ?_)
    |(with_reducible intro hb)
   ·exact QiH _ _
   ·generalize hp:std=p,hpre:Q3J=pre
    generalize hT:Q4N p tys _ _ _ _=T
    cbv at hT
    subst hT
    simp only[Tree.ok,Q1,S0]
    subst hp hpre
    simp[kR,signsL,List.find?,hb] at hk
    exact .pure rfl ⟨.inl (by rw[hk.1]),.inl (by rw[hk.2]),trivial⟩
   ·refine⟨5,⟨by omega,by omega,?_⟩,by omega,[],_,rfl,?_⟩
    ·rw[hk]
     simp only[kR,signsL,Int.reduceToNat,List.drop_succ_cons,List.drop_zero,List.find?_cons,hb]
    ·simp[Qe,lk,std]
  ·generalize hp:std=p,hpre:Q3J=pre
   generalize hT:Q5 p tys (Q5O pre) _ _ _ _=T
   cbv at hT
   subst hT
   simp only[Tree.ok,Q1,S0]
   subst hp hpre
   repeat' first
    |(with_reducible refine And.intro (fun hx=>absurd hx (by first|(try simp[std,S1,hk])<;>omega|omega)) (fun _=>?_))
    |(with_reducible refine And.intro (fun _=>?_) (fun hx=>absurd hx (by first|(try simp[std,S1,hk])<;>omega|omega)))
    |(with_reducible refine And.intro (by first|(try simp[std,S1,hk])<;>omega|omega) ?_)
    |(with_reducible refine And.intro ?_ ?_)
    |(with_reducible intro hb)
   rw[if_pos trivial]
   generalize hp:std=p,hpre:Q3J=pre
   generalize hT:Q5 p tys (Q5O pre) _ _ _ _=T
   cbv at hT
   subst hT
   simp only[Tree.ok,Q1,S0]
   subst hp hpre
   simp[kR,signsL] at hk
   exact .pure rfl ⟨.inl (by rw[hk.1]),.inl (by rw[hk.2]),trivial⟩
end Go.Proofs.YthbjpdijafccjaaGreat
namespace Go.Proofs.YthbjpdijafccjaaGreat
open Go.RowKit Go.Lib Tryz
section
variable {w:World} {g:Gh} {v:Value}
theorem Q4q {l:List Int}(h:ARel1 w g [] v (.slc 1 (Q0 l)))(M:Mem w g []):∃ A c,v=.slice A l.length c∧Rd w (fun _=>True) 1 A l.length c (rc l):=by
 obtain⟨A,c,ys,h1,h2,h3⟩:=Qlk h M
 have e:Q0 l=(rc l).map .val:=by simp[Q0,rc,Qfn]
 rw[e,Q9E] at h3
 obtain rfl:=QaR h3
 rw[Qi] at h1 h2
 exact⟨A,c,h1,h2⟩
theorem Qcp {l:List UInt8}(h:ARel1 w g [] v (.slc 1 (Q2 l)))(M:Mem w g []):∃ A c,v=.slice A l.length c∧Rd w (fun _=>True) 1 A l.length c (bc l):=by
 obtain⟨A,c,ys,h1,h2,h3⟩:=Qlk h M
 have e:Q2 l=(bc l).map .val:=by simp[Q2,bc,Q5M]
 rw[e,Q9E] at h3
 obtain rfl:=QaR h3
 rw[Q10] at h1 h2
 exact⟨A,c,h1,h2⟩
end
theorem QmK (l:List Int)(from_:Int)(p:Int→Bool)(f:Nat)(ef:∀ args w,(callFunc f args).run prog w=.ok (.enter f args) w)(hp:∀ w,Q7f prog f #[] p w) :
  BCall prog 75 [.slc 1 (Q0 l),.val (.int .i64 from_),.val (.func (.func f) #[] #[])] [] (.val (.int .i64 (Q2Q p l from_))) []:=by
 refine BCall.hand (enters_of func75 (by kernel_rfl) rfl) fun w g vs M hL=>?_
 obtain⟨v1,vs1,rfl,h1,hL⟩:=Q1d hL
 obtain⟨v2,vs2,rfl,h2,hL⟩:=Q1d hL
 obtain⟨v3,vs3,rfl,h3,hL⟩:=Q1d hL
 obtain rfl:=Q3c hL
 obtain⟨A,c,rfl,hr⟩:=Q4q h1 M
 obtain rfl:=Q3f h2
 obtain rfl:=Q3f h3
 exact (Q7C _ A _ c l from_ f #[] p w ef hr (hp w)).mono fun e w' ⟨h,hb⟩=>⟨_,h,hb,PRel.val _ rfl⟩
theorem QlA (l:List Int)(k:Int)(h0:0≤k)(hk:k≤1000000000):BCall prog 100 [.slc 1 (Q0 l),.val (.int .i64 k)] [] (.val (.int .i64 (Qg l k.toNat))) []:=by
 refine BCall.hand (enters_of func100 (by kernel_rfl) rfl) fun w g vs M hL=>?_
 obtain⟨v1,vs1,rfl,h1,hL⟩:=Q1d hL
 obtain⟨v2,vs2,rfl,h2,hL⟩:=Q1d hL
 obtain rfl:=Q3c hL
 obtain⟨A,c,rfl,hr⟩:=Q4q h1 M
 obtain rfl:=Q3f h2
 have:=Q7X _ A _ c l k.toNat w hr (by omega)
 rw[Int.toNat_of_nonneg h0] at this
 exact this.mono fun e w' ⟨h,hb⟩=>⟨_,h,hb,PRel.val _ rfl⟩
theorem Qic (l:List Int)(hl:l.length≤1000000000)(k:Int)(h0:0≤k)(hk:k≤l.length)(s:ByteArray)(hs:s.size≤1000000000):BCall prog 96 [.slc 1 (Q0 l),.val (.int .i64 k),.val (.string s)] [] (.val (.bool (Q3 l k.toNat s.data.toList))) []:=by
 refine BCall.hand (enters_of func96 (by kernel_rfl) rfl) fun w g vs M hL=>?_
 obtain⟨v1,vs1,rfl,h1,hL⟩:=Q1d hL
 obtain⟨v2,vs2,rfl,h2,hL⟩:=Q1d hL
 obtain⟨v3,vs3,rfl,h3,hL⟩:=Q1d hL
 obtain rfl:=Q3c hL
 obtain⟨A,c,rfl,hr⟩:=Q4q h1 M
 obtain rfl:=Q3f h2
 obtain rfl:=Q3f h3
 have:=Q21 _ A _ c l k.toNat s w hr (by omega) hl hs
 rw[Int.toNat_of_nonneg h0] at this
 exact this.mono fun e w' ⟨h,hb⟩=>⟨_,h,hb,PRel.val _ rfl⟩
structure Tok where
 kind:Int
 from_:Int
 to:Int
 whole:Bool
 deriving Inhabited
def Tok.av (t:Tok):AV:=.agg [.val (.int .i64 t.kind),.val (.int .i64 t.from_),.val (.int .i64 t.to),.val (.bool t.whole)]
def Q11 (l:List Int)(k:Nat):Tok:=⟨(Qk l k).1,k,(Qk l k).2.1,(Qk l k).2.2⟩
theorem QlZ (l:List Int)(hl:l.length≤1000000000)(k:Int)(h0:0≤k)(hk:k<l.length):BCall prog 52 [.slc 1 (Q0 l),.val (.int .i64 k)] [] (.tup [(Q11 l k.toNat).av,.val (.bool true)]) []:=by
 refine BCall.hand (enters_of func52 (by kernel_rfl) rfl) fun w g vs M hL=>?_
 obtain⟨v1,vs1,rfl,h1,hL⟩:=Q1d hL
 obtain⟨v2,vs2,rfl,h2,hL⟩:=Q1d hL
 obtain rfl:=Q3c hL
 obtain⟨A,c,rfl,hr⟩:=Q4q h1 M
 obtain rfl:=Q3f h2
 have:=QgK _ A _ c l k.toNat w hr (by omega) hl
 rw[Int.toNat_of_nonneg h0] at this
 refine this.mono fun e w' ⟨h,hb⟩=>⟨_,h,hb,_,rfl,rfl,fun j y u hy hu=>?_⟩
 match j,hy,hu with
 |0,hy,hu =>
  obtain rfl:Q20 (Qk l k.toNat) k.toNat=y:=by simpa using hy
  obtain rfl:(Q11 l k.toNat).av=u:=by simpa using hu
  refine⟨_,rfl,rfl,fun i y u hy hu=>?_⟩
  match i,hy,hu with
  |0,hy,hu=>cases hy;cases hu;exact⟨PRel.val _ rfl,rfl⟩
  |1,hy,hu=>cases hy;cases hu;exact⟨PRel.val _ rfl,rfl⟩
  |2,hy,hu=>cases hy;cases hu;exact⟨PRel.val _ rfl,rfl⟩
  |3,hy,hu=>cases hy;cases hu;exact⟨PRel.val _ rfl,rfl⟩
  |i+4,hy,hu=>simp at hy
 |1,hy,hu =>
  obtain rfl:Value.bool true=y:=by simpa using hy
  obtain rfl:AV.val (.bool true)=u:=by simpa using hu
  exact PRel.val _ rfl
 |j+2,hy,hu=>simp at hy
theorem QfZ (l:List Int)(k:Int)(h0:0≤k)(hk:(l.length:Int)≤k):BCall prog 52 [.slc 1 (Q0 l),.val (.int .i64 k)] [] (.tup [.agg [.val (.int .i64 0),.val (.int .i64 0),.val (.int .i64 0),.val (.bool false)],.val (.bool false)]) []:=by
 obtain⟨n,hn⟩:=Qy l
 have hk':n≤k:=by rw[hn.eq];exact hk
 refine fnN (cs:=cs0) func52 rfl (by kernel_rfl) ?_
 intro w0 g0
 generalize hp:std=p,hrs:Q0 l=rs
 generalize hT:Q5 p tys (cs0) _ _ _ _=T
 cbv at hT
 subst hT
 simp only[Tree.ok,Q1,S0]
 subst hp hrs
 have en:=hn.eq
 have hrl:=Qi l
 repeat' first
  |(with_reducible refine And.intro (fun hx=>absurd hx (by first|(try simp[std,S1,hrl,h0])<;>omega|omega)) (fun _=>?_))
  |(with_reducible refine And.intro (fun _=>?_) (fun hx=>absurd hx (by first|(try simp[std,S1,hrl,h0])<;>omega|omega)))
  |(with_reducible refine And.intro (by first|(try simp[std,S1,hrl,h0])<;>omega|omega) ?_)
  |(with_reducible refine And.intro ?_ ?_)
  |(with_reducible intro hb)
 exact .pure rfl ⟨⟨.inl rfl,.inl rfl,.inl rfl,.inl rfl,trivial⟩,.inl rfl,trivial⟩
end Go.Proofs.YthbjpdijafccjaaGreat
namespace Go.Proofs.YthbjpdijafccjaaGreat
open Go.RowKit Go.Lib Tryz
def Q1i (l:List Tok):List AV:=l.map Tok.av
theorem Q7O (l:List Tok):(Q1i l).length=l.length:=by simp[Q1i]
theorem Qd9 (a b:List Tok):Q1i (a++b)=Q1i a++Q1i b:=by simp[Q1i]
theorem QcY (t:Tok):Q1i [t]=[.agg [.val (.int .i64 t.kind),.val (.int .i64 t.from_),.val (.int .i64 t.to),.val (.bool t.whole)]]:=rfl
def Qn1 (t:(Nat×Nat×Bool)×Nat):Tok:=⟨t.1.1,t.2,t.1.2.1,t.1.2.2⟩
def Q1U (l:List Int)(k:Nat):List Tok:=(Q4E l k).map Qn1
def Q5P (l:List Int):List Tok:=Q1U l 0
theorem Q1W {l:List Int}{k:Nat}(h:k<l.length):Q1U l k=Q11 l k::Q1U l (Qk l k).2.1:=by
 rw[Q1U,Qah l k h];rfl
theorem Q1q {l:List Int}{k:Nat}(h:¬ k<l.length):Q1U l k=[]:=by rw[Q1U,Qc2 l k h];rfl
def Q4c (l:List Int)(k:Int):Tok:=if 0≤k∧k<l.length then Q11 l k.toNat else ⟨0,0,0,false⟩
def Q8f (l:List Int)(k:Int):Bool:=decide (0≤k∧k<l.length)
theorem QjA (l:List Int)(hl:l.length≤1000000000)(k:Int)(h0:0≤k):BCall prog 52 [.slc 1 (Q0 l),.val (.int .i64 k)] [] (.tup [.agg [.val (.int .i64 (Q4c l k).kind),.val (.int .i64 (Q4c l k).from_),.val (.int .i64 (Q4c l k).to),.val (.bool (Q4c l k).whole)],.val (.bool (Q8f l k))]) []:=by
 by_cases h:k<l.length
 ·rw[Q4c,if_pos ⟨h0,h⟩,Q8f,decide_eq_true ⟨h0,h⟩]
  exact QlZ l hl k h0 h
 ·have:¬ (0≤k∧k<l.length):=fun x=>h x.2
  rw[Q4c,if_neg this,Q8f,decide_eq_false this]
  exact QfZ l k h0 (by omega)
def csN (kd fr to:Int→Int)(wh ok:Int→Bool):Nat→List AV→List Ob→Option (AV×List Ob):=fun f args _=>match f,args with
 |52,[.slc 1 _,.val (.int .i64 k)]=>some (.tup [.agg [.val (.int .i64 (kd k)),.val (.int .i64 (fr k)),.val (.int .i64 (to k)),.val (.bool (wh k))],.val (.bool (ok k))],[])
 |_,_=>none
theorem QiO (l:List Int)(hl:l.length≤1000000):BCall prog 29 [.slc 1 (Q0 l)] [] (.slc 4 (Q1i (Q5P l))) []:=by
 have hNx:=fun k h0=>QjA l (by omega) k h0
 obtain⟨kd,hkd⟩:=exq (fun k=>(Q4c l k).kind:Int→Int)
 obtain⟨fr,hfr⟩:=exq (fun k=>(Q4c l k).from_:Int→Int)
 obtain⟨to,hto⟩:=exq (fun k=>(Q4c l k).to:Int→Int)
 obtain⟨wh,hwh⟩:=exq (fun k=>(Q4c l k).whole:Int→Bool)
 obtain⟨ok,hok⟩:=exq (Q8f l:Int→Bool)
 have hNx:∀ k,0≤k→BCall prog 52 [.slc 1 (Q0 l),.val (.int .i64 k)] [] (.tup [.agg [.val (.int .i64 (kd k)),.val (.int .i64 (fr k)),.val (.int .i64 (to k)),.val (.bool (wh k))],.val (.bool (ok k))]) []:=fun k h0=>by rw[hkd,hfr,hto,hwh,hok];exact hNx k h0
 obtain⟨n,hn⟩:=Qy l
 have hstep:∀ k:Int,0≤k→k<n→to k=((Qk l k.toNat).2.1:Nat)∧k<to k∧to k≤n∧Q11 l k.toNat=⟨kd k,fr k,to k,wh k⟩∧ok k=true:=fun k h0 h1=>by
  have e:=hn.eq
  have h2:Q4c l k=Q11 l k.toNat:=by rw[Q4c,if_pos ⟨h0,by omega⟩]
  have h3:=Q3I l k.toNat (by omega)
  have h4:to k=((Qk l k.toNat).2.1:Nat):=by rw[hto];simp only[h2];rfl
  refine⟨h4,by omega,by omega,?_,?_⟩
  ·rw[hkd,hfr,hto,hwh];simp only[h2]
  ·rw[hok];simp[Q8f];omega
 have hend:∀ k:Int,0≤k→¬ k<n→ok k=false:=fun k h0 h1=>by
  have e:=hn.eq
  rw[hok];simp[Q8f];omega
 clear hkd hfr hto hwh hok
 refine fnN (cs:=csN kd fr to wh ok) func29 rfl (by kernel_rfl) ?_
 intro w0 g0
 generalize hp:std=p,hrs:Q0 l=rs
 generalize hT:Q5 p tys (csN kd fr to wh ok) _ _ _ _=T
 cbv at hT
 subst hT
 simp only[Tree.ok,Q1,S0]
 subst hp hrs
 refine⟨hNx 0 (by omega),?_⟩
 refine Q1r (cs:=csN kd fr to wh ok) (by kernel_rfl) (X:=List Tok×Int) (fun x=>⟨[(0,.slc 1 (Q0 l)),(3,.row 0 0),(4,.box 1 0),(5,.val (.bool (ok x.2)))],[.row 95 4 false 0 (Q1i x.1),.box [.val (.int .i64 (kd x.2)),.val (.int .i64 (fr x.2)),.val (.int .i64 (to x.2)),.val (.bool (wh x.2))]]⟩) (fun x=>0≤x.2∧x.2≤n∧x.1++Q1U l x.2.toNat=Q5P l∧(x.1.length:Int)≤x.2) (fun x=>(n-x.2).toNat) ([],0) ?_ ?_ ?_
 ·have:=hn.eq
  exact⟨by omega,by simp only;omega,rfl,by simp⟩
 ·exact⟨[none,some 0],_,rfl,by simp[Qe,lk,Q1i]⟩
 ·rintro⟨out,k⟩ ⟨hJ0,hJ1,hJ2,hJ3⟩
  simp only at hJ0 hJ1 hJ2 hJ3
  have hol:=Q7O out
  have en:=hn.eq
  have hbd:out.length≤1000000:=by omega
  obtain⟨q,hq⟩:=Qy out
  have hJ4:q≤k:=by rw[hq.eq];exact hJ3
  clear en
  by_cases hk:k<n
  ·obtain⟨s1,s2,s3,s4,s5⟩:=hstep k hJ0 hk
   have s6:=hNx (to k) (by omega)
   have en:=hn.eq
   have hG:out++[⟨kd k,fr k,to k,wh k⟩]++Q1U l (to k).toNat=Q5P l:=by
    rw[←hJ2,Q1W (k:=k.toNat) (by omega),s4,s1,Int.toNat_natCast];simp
   clear s1 en
   generalize hp:std=p,hrs:Q0 l=rs,ho:Q1i out=o
   generalize hT:Q5 p tys (csN kd fr to wh ok) _ _ _ _=T
   cbv at hT
   subst hT
   simp only[Tree.ok,Q1,S0]
   subst hp hrs ho
   have eq:=hq.eq
   repeat' first
    |(with_reducible refine And.intro (fun hx=>absurd hx (by first|(try simp[std,S1,hol,s5,s6])<;>omega|omega)) (fun _=>?_))
    |(with_reducible refine And.intro (fun _=>?_) (fun hx=>absurd hx (by first|(try simp[std,S1,hol,s5,s6])<;>omega|omega)))
    |(with_reducible refine And.intro (by first|(try simp[std,S1,hol,s5,s6])<;>omega|omega) ?_)
    |(with_reducible refine And.intro ?_ ?_)
    |(with_reducible intro hb)
   exact⟨(out++[⟨kd k,fr k,to k,wh k⟩],to k),⟨by simp only;omega,s3,hG,by show ((out++[_]).length:Int)≤to k;simp only[List.length_append,List.length_singleton];omega⟩,by simp only;omega,[some 0,some 3],_,rfl,by simp[Qe,lk,std,Qd9,QcY]⟩
  ·have s5:=hend k hJ0 hk
   have en:=hn.eq
   have hG:out=Q5P l:=by rw[←hJ2,Q1q (by omega),List.append_nil]
   clear en
   generalize hp:std=p,hrs:Q0 l=rs,ho:Q1i out=o
   generalize hT:Q5 p tys (csN kd fr to wh ok) _ _ _ _=T
   cbv at hT
   subst hT
   simp only[Tree.ok,Q1,S0]
   subst hp hrs ho
   repeat' first
    |(with_reducible refine And.intro (fun hx=>absurd hx (by first|(try simp[std,S1,s5])<;>omega|omega)) (fun _=>?_))
    |(with_reducible refine And.intro (fun _=>?_) (fun hx=>absurd hx (by first|(try simp[std,S1,s5])<;>omega|omega)))
    |(with_reducible refine And.intro (by first|(try simp[std,S1,s5])<;>omega|omega) ?_)
    |(with_reducible refine And.intro ?_ ?_)
    |(with_reducible intro hb)
   rw[if_pos trivial]
   generalize hp:std=p,hrs:Q0 l=rs,ho:Q1i out=o
   generalize hT:Q5 p tys (csN kd fr to wh ok) _ _ _ _=T
   cbv at hT
   subst hT
   simp only[Tree.ok,Q1,S0]
   subst hp hrs ho
   exact .pure rfl (.inl (by rw[hG]))
def Q1v (l:List Int):Int:=if l.getD 0 0=34∨l.getD 0 0=39 then (match (l.drop 1).findIdx? (· == l.getD 0 0) with|some k=>k+2|none=>0) else 0
theorem QfU {l:List Int}{i:Int}(hq:l.getD 0 0=34∨l.getD 0 0=39)(h1:1≤i)(h2:i<l.length)(h3:∀ j:Int,1≤j→j<i→l.getD j.toNat 0≠l.getD 0 0)(h4:l.getD i.toNat 0=l.getD 0 0):Q1v l=i+1:=by
 have hk:i.toNat-1<(l.drop 1).length:=by simp;omega
 have e:(l.drop 1).findIdx? (· == l.getD 0 0)=some (i.toNat-1):=by
  rw[List.findIdx?_eq_some_iff_getElem]
  refine⟨hk,?_,fun j hj=>?_⟩
  ·have h5:1+(i.toNat-1)=i.toNat:=by omega
   have h6:i.toNat<l.length:=by omega
   simp only[List.getElem_drop,h5,beq_iff_eq]
   rw[←h4,List.getD_eq_getElem?_getD,List.getElem?_eq_getElem h6];rfl
  ·have h6:j+1<l.length:=by omega
   have h7:=h3 ((j+1:Nat):Int) (by omega) (by omega)
   rw[Int.toNat_natCast,List.getD_eq_getElem?_getD,List.getElem?_eq_getElem h6] at h7
   simpa[List.getElem_drop] using h7
 simp only[Q1v,if_pos hq,e]
 omega
theorem Qe1 {l:List Int}(h3:∀ j:Int,1≤j→j<l.length→l.getD j.toNat 0≠l.getD 0 0):Q1v l=0:=by
 have e:(l.drop 1).findIdx? (· == l.getD 0 0)=none:=by
  rw[List.findIdx?_eq_none_iff]
  intro x hx
  obtain⟨j,hj,rfl⟩:=List.mem_iff_getElem.1 hx
  have h6:j+1<l.length:=by simp at hj;omega
  have h7:=h3 ((j+1:Nat):Int) (by omega) (by omega)
  rw[Int.toNat_natCast,List.getD_eq_getElem?_getD,List.getElem?_eq_getElem h6] at h7
  simpa[List.getElem_drop] using h7
 simp only[Q1v,e]
 split<;>rfl
theorem Qk2 (l:List Int)(hl:l≠[])(hmax:l.length≤1000000000):BCall prog 129 [.slc 1 (Q0 l)] [] (.val (.int .i64 (Q1v l))) []:=by
 refine Qj5 (cs:=cs0) (ord:=fun _=>.nil) Q6O (by kernel_rfl) func129 rfl (enters_of func129 (by kernel_rfl) rfl) (Nat.le_of_ble_eq_true rfl) (by kernel_rfl) (by kernel_rfl) ?_
 intro w0 g0
 generalize hp:std=p
 generalize hx:Q0 l=xs
 generalize hT:Q5 p tys cs0 _ _ _ _=T
 cbv at hT
 subst hT
 simp only[Tree.ok]
 subst hp hx
 have hpos:0<l.length:=List.length_pos_iff.2 hl
 have hlen:=Qi l
 have a0:(Q0 l)[0]?.getD .dead=.val (.int .i32 (l[0]?.getD 0)):=Qv (i:=0) (Int.le_refl 0) (by omega)
 refine⟨?_,?_,fun h1=>⟨?_,?_,fun h2=>.pure rfl (.inl ?_),fun h2=>?_⟩,fun h1=>?_⟩
 ·simp[std,hlen,hpos]
 ·simp[std,Q3p,a0,AV.cells,intOf]
 ·simp[std,hlen,hpos]
 ·simp[std,Q3p,a0,AV.cells,intOf]
 ·simp[std,a0,AV.cells,intOf] at h1 h2
  simp[Q1v,h1,h2]
 all_goals
  have hq:l.getD 0 0=34∨l.getD 0 0=39:=by
   first
    |(simp[std,a0,AV.cells,intOf] at h2;exact .inr h2)
    |(simp[std,a0,AV.cells,intOf] at h1;exact .inl h1)
  refine Qbh (cs:=cs0) (ord:=fun _=>.nil) Q6O (by kernel_rfl) (by kernel_rfl) (by kernel_rfl) (X:=Int) (fun i=>⟨[(0,.slc 1 (Q0 l)),(3,.val (.int .i64 i))],[]⟩)
   (fun i=>1≤i∧i≤l.length∧∀ j:Int,1≤j→j<i→l.getD j.toNat 0≠l.getD 0 0) (fun i=>(l.length-i).toNat) 1 ⟨by omega,by omega,fun j h1 h2=>by omega⟩ ⟨[],_,rfl,?_⟩ ?_
  ·exact⟨rfl,rfl,trivial⟩
  ·rintro i ⟨hi1,hi2,hi3⟩
   clear h1
   generalize hp:std=p
   generalize hx:Q0 l=xs
   generalize hT:Q5 p tys cs0 _ _ _ _=T
   cbv at hT
   subst hT
   simp only[Tree.ok,Q1]
   subst hp hx
   refine⟨fun h1=>?_,fun h1=>?_⟩
   ·have h1:i<l.length:=by simpa[std,hlen] using h1
    have ai:=Qv (l:=l) (i:=i) (by omega) h1
    refine⟨?_,?_,?_,?_,fun h2=>⟨?_,?_⟩,fun h2=>⟨?_,i+1,⟨?_,?_,fun j h3 h4=>?_⟩,?_,[],_,rfl,?_⟩⟩
    ·simp[std,hlen];omega
    ·simp[std,Q3p,ai,AV.cells,intOf]
    ·simp[std,hlen,hpos]
    ·simp[std,Q3p,a0,AV.cells,intOf]
    ·show (-9223372036854775808:Int)≤_∧_≤(9223372036854775807:Int)
     simp[std];omega
    ·generalize hp:std=p
     generalize hx:Q0 l=xs
     generalize hT:Q4N p tys _ _ _ _=T
     cbv at hT
     subst hT
     subst hp hx
     refine FinOk.pure rfl (.inl ?_)
     have e:l.getD i.toNat 0=l.getD 0 0:=by simpa[std,ai,a0,AV.cells,intOf] using h2
     rw[QfU hq hi1 h1 hi3 e]
     rfl
    ·show (-9223372036854775808:Int)≤_∧_≤(9223372036854775807:Int)
     simp[std];omega
    ·show (1:Int)≤i+1
     omega
    ·show i+1≤(l.length:Int)
     omega
    ·by_cases hji:j=i
     ·subst hji
      simpa[std,ai,a0,AV.cells,intOf] using h2
     ·exact hi3 j h3 (by omega)
    ·show ((l.length:Int)-(i+1)).toNat<((l.length:Int)-i).toNat
     omega
    ·exact⟨rfl,rfl,trivial⟩
   ·have h1:¬ i<l.length:=by simpa[std,hlen] using h1
    generalize hp:std=p
    generalize hx:Q0 l=xs
    generalize hT:Q5 p tys cs0 _ _ _ _=T
    cbv at hT
    subst hT hp hx
    rw[if_pos trivial]
    refine FinOk.pure rfl (.inl ?_)
    rw[Qe1 (l:=l) (fun j h3 h4=>hi3 j h3 (Int.lt_of_lt_of_le h4 (Int.not_lt.1 h1)))]
structure TPart where
 kind:Int
 from_:Int
 to:Int
 deriving Inhabited
def TPart.av (x:TPart):AV:=.agg [.val (.int .i64 x.kind),.val (.int .i64 x.from_),.val (.int .i64 x.to)]
def Q9 (l:List TPart):List AV:=l.map TPart.av
def Ql:TPart:=⟨0,0,0⟩
theorem Q16 (l:List TPart):(Q9 l).length=l.length:=by simp[Q9]
theorem Q9w (a b:List TPart):Q9 (a++b)=Q9 a++Q9 b:=by simp[Q9]
theorem Q7c (x:TPart):Q9 [x]=[.agg [.val (.int .i64 x.kind),.val (.int .i64 x.from_),.val (.int .i64 x.to)]]:=rfl
theorem Q24 {l:List TPart}{i:Int}(h0:0≤i)(h1:i<l.length):(Q9 l)[i.toNat]?.getD .dead=(l[i.toNat]?.getD Ql).av:=QdA TPart.av h0 h1 Ql
def QM (l:List TPart)(a:Nat)(ks:List Int):Bool:=((l.drop a).take ks.length).map TPart.kind == ks
theorem Q2U {l:List TPart}{a:Nat}{ks:List Int}(ha:a≤l.length):QM l a ks=true↔(a+ks.length≤l.length∧∀ j,j<ks.length→(l[a+j]?.getD Ql).kind=ks[j]?.getD 0):=by
 have at_:a+ks.length≤l.length→∀ j,j<ks.length→(((l.drop a).take ks.length).map TPart.kind)[j]?=some (l[a+j]?.getD Ql).kind:=fun h j hj=>by
  have h1:a+j<l.length:=by omega
  simp[List.getElem?_take,List.getElem?_drop,hj,h1]
 rw[QM,beq_iff_eq]
 constructor
 ·intro h
  have h1:a+ks.length≤l.length:=by
   have:=congrArg List.length h
   simp only[List.length_map,List.length_take,List.length_drop] at this
   omega
  refine⟨h1,fun j hj=>?_⟩
  have h2:=at_ h1 j hj
  rw[h] at h2
  rw[h2];rfl
 ·rintro⟨h1,h2⟩
  refine List.ext_getElem? fun j=>?_
  by_cases hj:j<ks.length
  ·rw[at_ h1 j hj,h2 j hj,List.getElem?_eq_getElem hj];rfl
  ·rw[List.getElem?_eq_none (by simp;omega),List.getElem?_eq_none (by omega)]
theorem Q6u (l:List TPart)(hl:l.length≤1000000000)(a:Int)(h0:0≤a)(h1:a≤l.length)(ks:List Int)(hk:ks.length≤10)(res:AV)(a':Int)
  (hhit:QM l a.toNat ks=true→res=.slc 3 (Q9 ((l.drop a.toNat).take ks.length))∧a'=a+ks.length) (hmiss:QM l a.toNat ks=false→res=.val (.slice none 0 0)∧a'=a) :
  BCall prog 78 [.box 0 0,.slc 1 (Q8 ks)] [.box [.slc 3 (Q9 l),.val (.int .i64 a)]] res [.box [.slc 3 (Q9 l),.val (.int .i64 a')]]:=by
 obtain⟨n,hn⟩:=Qy l
 obtain⟨m,hm⟩:=Qy ks
 refine fnN (cs:=cs0) func78 rfl (by kernel_rfl) ?_
 intro w0 g0
 have hpl:=Q16 l
 have hkl:=Q26 ks
 have hiff:=Q2U (l:=l) (a:=a.toNat) (ks:=ks) (by omega)
 generalize hp:std=p,hps:Q9 l=ps,hkv:Q8 ks=kv
 generalize hT:Q5 p tys (cs0) _ _ _ _=T
 cbv at hT
 subst hT
 simp only[Tree.ok,Q1,S0]
 subst hp hps hkv
 have en:=hn.eq
 have em:=hm.eq
 replace h1:a≤(l.length:Int):=h1
 refine⟨?_,fun h=>?_,fun h=>?_⟩
 ·refine (QeO _).2 ?_
  simp only[std,hpl];omega
 ·have h:(l.length:Int)-a<ks.length:=by simpa[std,hpl,hkl] using h
  obtain⟨rfl,rfl⟩:=hmiss (by
   rw[Bool.eq_false_iff];intro h2
   have:=(hiff.1 h2).1
   omega)
  exact⟨[some 0],.val (.slice none 0 0),_,rfl,rfl,Nat.le_refl _,rfl,by simp[Qe],.inl rfl⟩
 ·have h:¬ (l.length:Int)-a<ks.length:=by simpa[std,hpl,hkl] using h
  refine Q1r (cs:=cs0) (by kernel_rfl) (X:=Int) (fun i=>⟨[(0,.box 0 0),(1,.slc 1 (Q8 ks)),(21,.slc 1 (Q8 ks)),(22,.val (.int .i64 m)),(23,.val (.int .i64 i))],[.box [.slc 3 (Q9 l),.val (.int .i64 a)]]⟩) (fun i=>0≤i∧i≤m∧∀ j:Nat,(j:Int)<i→(l[a.toNat+j]?.getD Ql).kind=ks[j]?.getD 0) (fun i=>(m-i).toNat) 0 ?_ ?_ ?_
  ·exact⟨by omega,by omega,fun j hj=>by omega⟩
  ·refine⟨[some 0],_,rfl,?_⟩
   simp[Qe,lk,std,hkl,em]
  ·have hmn:a+m≤n:=by omega
   clear h
   rintro i ⟨hi0,him,hi⟩
   rcases Int.lt_or_eq_of_le him with hlt|heq
   ·have hat:=Q2r (l:=ks) hi0 (by omega)
    have hap:=Q24 (l:=l) (i:=a+i) (by omega) (by omega)
    have hai:(a+i).toNat=a.toNat+i.toNat:=by omega
    rw[hai] at hap
    have hi':∀ j:Nat,j<i.toNat→(l[a.toNat+j]?.getD Ql).kind=ks[j]?.getD 0:=fun j hj=>hi j (by omega)
    clear hi
    clear en em
    generalize hp:std=p,hps:Q9 l=ps,hkv:Q8 ks=kv
    generalize hT:Q5 p tys (cs0) _ _ _ _=T
    cbv at hT
    subst hT
    simp only[Tree.ok,Q1,S0]
    subst hp hps hkv
    have en:=hn.eq
    have em:=hm.eq
    have hib:a+i<(l.length:Int):=by omega
    repeat' first
     |(with_reducible refine And.intro (fun hx=>absurd hx (by first|(try simp[std,S1,hat,hap,hai,TPart.av,hpl,hkl,hlt,hi0,hib])<;>omega|omega)) (fun _=>?_))
     |(with_reducible refine And.intro (fun _=>?_) (fun hx=>absurd hx (by first|(try simp[std,S1,hat,hap,hai,TPart.av,hpl,hkl,hlt,hi0,hib])<;>omega|omega)))
     |(with_reducible refine And.intro (by first|(try simp[std,S1,hat,hap,hai,TPart.av,hpl,hkl,hlt,hi0,hib])<;>omega|omega) ?_)
     |(with_reducible refine And.intro ?_ ?_)
     |(with_reducible intro hb)
    ·have hne:¬ (l[a.toNat+i.toNat]?.getD Ql).kind=ks[i.toNat]?.getD 0:=by
      simpa[std,hat,hap,hai,TPart.av,AV.cells,intOf] using hb
     obtain⟨rfl,rfl⟩:=hmiss (by
      rw[Bool.eq_false_iff];intro h2
      exact hne ((hiff.1 h2).2 i.toNat (by omega)))
     generalize hp:std=p,hps:Q9 l=ps,hkv:Q8 ks=kv
     generalize hT:Q4N p tys _ _ _ _=T
     cbv at hT
     subst hT
     simp only[Tree.ok,Q1,S0]
     subst hp hps hkv
     exact⟨[some 0],.val (.slice none 0 0),_,rfl,rfl,Nat.le_refl _,rfl,by simp[Qe],.inl rfl⟩
    ·have he:(l[a.toNat+i.toNat]?.getD Ql).kind=ks[i.toNat]?.getD 0:=by
      simpa[std,hat,hap,hai,TPart.av,AV.cells,intOf] using hb
     refine⟨i+1,⟨by omega,by omega,fun j hj=>?_⟩,by omega,[some 0],_,rfl,by simp[Qe,lk,std]⟩
     have hj:(j:Int)<i+1:=hj
     by_cases hji:j<i.toNat
     ·exact hi' j hji
     ·obtain rfl:j=i.toNat:=by omega
      exact he
   ·obtain⟨rfl,rfl⟩:=hhit (hiff.2 ⟨by omega,fun j hj=>hi j (by omega)⟩)
    have hcut:std.cut (Q9 l) a (a+m)=Q9 ((l.drop a.toNat).take ks.length):=by
     show ((Q9 l).drop a.toNat).take (a+m-a).toNat=_
     rw[show (a+m-a).toNat=ks.length by omega,Q9,Q9,List.map_take,List.map_drop]
    have hml:std.len (Q8 ks)=m:=by simp only[std,hkl,em]
    have hka:a+(ks.length:Int)=a+m:=by omega
    rw[hka,←hcut]
    clear en em hi
    generalize hp:std=p,hps:Q9 l=ps,hkv:Q8 ks=kv
    generalize hT:Q5 p tys (cs0) _ _ _ _=T
    cbv at hT
    subst hT
    simp only[Tree.ok,Q1,S0]
    subst hp hps hkv
    repeat' first
     |(with_reducible refine And.intro (fun hx=>absurd hx (by first|(try simp[std,S1,heq])<;>omega|omega)) (fun _=>?_))
     |(with_reducible refine And.intro (fun _=>?_) (fun hx=>absurd hx (by first|(try simp[std,S1,heq])<;>omega|omega)))
     |(with_reducible refine And.intro (by first|(try simp[std,S1,heq])<;>omega|omega) ?_)
     |(with_reducible refine And.intro ?_ ?_)
     |(with_reducible intro hb)
    rw[if_pos trivial]
    generalize hp:std=p,hps:Q9 l=ps,hkv:Q8 ks=kv
    generalize hT:Q5 p tys cs0 _ _ _ _=T
    cbv at hT
    subst hT
    simp only[Tree.ok,Q1,S0]
    subst hp hps hkv
    have en:=hn.eq
    have em:=hm.eq
    repeat' first
     |(with_reducible refine And.intro (fun hx=>absurd hx (by first|(try simp[std,S1,hml,hpl,hkl,←em])<;>omega|omega)) (fun _=>?_))
     |(with_reducible refine And.intro (fun _=>?_) (fun hx=>absurd hx (by first|(try simp[std,S1,hml,hpl,hkl,←em])<;>omega|omega)))
     |(with_reducible refine And.intro (by first|(try simp[std,S1,hml,hpl,hkl,←em])<;>omega|omega) ?_)
     |(with_reducible refine And.intro ?_ ?_)
     |(with_reducible intro hb)
    have hadd:std.add a (std.len (Q8 ks))=a+m:=by rw[hml];rfl
    refine⟨[some 0],.slc 3 (std.cut (Q9 l) a (a+m)),_,rfl,rfl,Nat.le_refl _,rfl,⟨?_,rfl,?_,trivial⟩,.inl rfl⟩
    ·show AV.slc 3 (std.cut (Q9 l) a (std.add a (std.len (Q8 ks))))=_
     rw[hadd]
    ·show AV.val (.int .i64 (std.add a (std.len (Q8 ks))))=_
     rw[hadd]
end Go.Proofs.YthbjpdijafccjaaGreat
namespace Go.Proofs.YthbjpdijafccjaaGreat
open Go.RowKit Go.Lib
def QmE (ob ob2 ob2' obr:List Ob)(ρ ρ':List (Option Nat)):Bool:=(List.range ob.length).all fun i=>match Qgg ρ i with
 |some j=>ρ'[i]? == some (some j)&&(match ob[i]?,ob2[j]?,ob2'[j]?,obr[i]? with
  |some (.row _ _ _ e0 _),some (.row _ _ _ e2 _),some (.row _ _ _ e2' _),some (.row _ _ _ er _)=>decide (e0<er)||(e0 == er&&e2 == e2')
  |_,_,_,_=>true)
 |none=>false
section
variable {w w':World} {g g':Gh} {ob ob2 ob2' obr:List Ob} {ρ ρ':List (Option Nat)}
theorem Qh9 (hF:Fits ob ob2 ρ)(ho:Q2P ρ=true)(hF':Fits ob2' obr ρ')(ho':Q2P ρ'=true)(hi:QmE ob ob2 ob2' obr ρ ρ'=true)(hn:ob.length≤obr.length)(h0:Step w (g.ren ρ) ob2 w' g' ob2'):Step w g ob w' (g'.ren ρ') obr:=by
 have head:∀ i,i<ob.length→∃ j,ρ[j]?=some (some i)∧ρ'[i]?=some (some j)∧∀ e0 e2 e2' er et sz fz xs et2 sz2 fz2 xs2 et3 sz3 fz3 xs3 et4 sz4 fz4 xs4,
   ob[i]?=some (.row et sz fz e0 xs)→ob2[j]?=some (.row et2 sz2 fz2 e2 xs2)→ob2'[j]?=some (.row et3 sz3 fz3 e2' xs3)→obr[i]?=some (.row et4 sz4 fz4 er xs4)→e0<er∨(e0=er∧e2=e2'):=fun i hi'=>by
  have:=List.all_eq_true.1 hi i (List.mem_range.2 hi')
  split at this
  ·rename_i j hj
   simp only[Bool.and_eq_true,beq_iff_eq] at this
   refine⟨j,Qdw hj,this.1,?_⟩
   intro e0 e2 e2' er et sz fz xs et2 sz2 fz2 xs2 et3 sz3 fz3 xs3 et4 sz4 fz4 xs4 h1 h2 h3 h4
   have h5:=this.2
   simp only[h1,h2,h3,h4,Bool.or_eq_true,Bool.and_eq_true,beq_iff_eq,decide_eq_true_eq] at h5
   exact h5
  ·cases this
 refine⟨h0.os,h0.tape,h0.output,h0.size,fun b hb hG=>h0.keep b hb (by simp[Gh.ren,hG]),fun b id hG=>?_,fun b o hA=>?_,⟨h0.ext.A,fun id hid=>?_,fun id hb=>?_,fun id hb=>?_,fun id et sz fz e xs hr=>?_,fun b id hG hs=>?_⟩,hn⟩
 ·obtain⟨i,_,h3⟩:=Q2V hG
  rcases h0.own b i h3 with ⟨id',h4⟩|h4
  ·obtain⟨i',_,h5⟩:=Q2V h4
   exact .inl ⟨i',h5⟩
  ·exact .inr h4
 ·rcases h0.imm b o hA with h1|⟨id,h1⟩|h1
  ·exact .inl h1
  ·obtain⟨i',_,h5⟩:=Q2V h1
   exact .inr (.inl ⟨i',h5⟩)
  ·exact .inr (.inr h1)
 ·obtain⟨j,h1,h2,_⟩:=head id hid
  have hj:j<ob2.length:=hF.1 ▸ Qb h1
  rw[Q3b h2,h0.ext.loc j hj,Q3b h1]
 ·obtain⟨j,h1,h2,_⟩:=head id (Q46 hb)
  exact hF'.isB h2 (h0.ext.isb j (hF.isB h1 hb))
 ·obtain⟨j,h1,h2,_⟩:=head id (Q4U hb)
  exact hF'.isI h2 (h0.ext.isi j (hF.isI h1 hb))
 ·obtain⟨j,h1,h2,h3⟩:=head id (Qb hr)
  obtain⟨fz2,e2,h4,_⟩:=hF.row h1 hr
  obtain⟨fz3,e3,xs3,h5,h6,h7⟩:=h0.ext.row j et sz fz2 e2 xs h4
  obtain⟨fz4,e4,h8,_⟩:=hF'.row h2 h5
  refine⟨fz4,e4,xs3,h8,by rcases h3 _ _ _ _ _ _ _ _ _ _ _ _ _ _ _ _ _ _ _ _ hr h4 h5 h8 with h|h<;>omega,fun he=>?_⟩
  have hee:e3=e2:=by
   rcases h3 _ _ _ _ _ _ _ _ _ _ _ _ _ _ _ _ _ _ _ _ hr h4 h5 h8 with h|h
   ·omega
   ·exact h.2.symm
  obtain⟨h9,h10⟩:=h7 hee
  refine⟨h9,fun b hb=>?_⟩
  obtain⟨h11,h12⟩:=h10 b (Q6a ho h1 hb)
  exact⟨Q6a ho' h2 h11,h12⟩
 ·obtain⟨et,sz,fz,fz',e,xs,xs',h4,h5⟩:=hs
  obtain⟨j,h1,h2,h3⟩:=head id (Qb h4)
  obtain⟨fz2,e2,h6,_⟩:=hF.row h1 h4
  obtain⟨fz3,e3,xs3,h7,h8,h9⟩:=h0.ext.row j et sz fz2 e2 xs h6
  obtain⟨fz4,e4,h10,_⟩:=hF'.row h2 h7
  rw[h10] at h5
  obtain⟨rfl,rfl,rfl⟩:fz4=fz'∧e4=e∧xs3=xs':=by simpa using h5
  have hee:e2=e3:=by
   rcases h3 _ _ _ _ _ _ _ _ _ _ _ _ _ _ _ _ _ _ _ _ h4 h6 h7 h10 with h|h
   ·omega
   ·exact h.2
  subst hee
  have hG2:=Q6a (g:=g) ho h1 hG
  obtain⟨h11,h12⟩:=h0.ext.sub b j hG2 ⟨_,_,_,_,_,_,_,h6,h7⟩
  have hG3:=((h9 rfl).2 b hG2).1
  have e1:=Q4i (g:=g) ho h1 hG
  have e2:=Q4i (g:=g') ho' h2 hG3
  exact⟨e2.trans (h11.trans e1),fun hb=>h12 (by rw[e1];exact hb)⟩
theorem BCall.tell {P:Program}{f:Nat}{args args2:List AV}{res2 res' res:AV}{l l':Eqs}(h:BCall P f args2 ob2 res2 ob2')(ρ ρ':List (Option Nat))(h1:Q2P ρ=true)(h1':Q2P ρ'=true)(hi:QmE ob ob2 ob2' obr ρ ρ'=true)(hn:ob.length≤obr.length)
  (ha:both (QaS ob ob2 ρ args args2) (Q8s ob ob2 ρ ρ ob2)=some l) (hl:Qe l) (hr:both (QiW ob2' obr ρ' res2 res') (Q8s ob2' obr ρ' ρ' obr)=some l') (hl':Qe l') (h6:leA res' res):BCall P f args ob res obr:=by
 refine⟨h.1,fun w g vs M hL=>?_⟩
 obtain⟨⟨l1,e1,a1⟩,l2,e2,a2⟩:=Q30 ha hl
 obtain⟨⟨l3,e3,a3⟩,l4,e4,a4⟩:=Q30 hr hl'
 have hF:Fits ob ob2 ρ:=Q4o _ _ _ e2 a2
 have hF':Fits ob2' obr ρ':=Q4o _ _ _ e4 a4
 obtain⟨k1,k2⟩:=Q8h hF h1 _ _ _ _ e1 a1 hL.1 hL.2
 refine (h.2 w (g.ren ρ) vs (M.ren hF h1) ⟨k1,k2⟩).mono fun e w' ⟨v,g',k1,k2,k3,k4⟩=>?_
 exact⟨v,g'.ren ρ',k1,k2.ren hF' h1',Q8S (Q9u hF' h1' k3 e3 a3) h6,Qh9 hF h1 hF' h1' hi hn k4⟩
end
section
variable {P:Program} {ty:Tys} {w0:World} {g0:Gh} {o0:List Ob} {N:Nat}
theorem Q4F (hT:TyOk P ty)(hm:P.follows .mixedOrders=true){ord:Nat→OT}{c:Code}(hd:Q40 N c=true)(ho:Q3N .any ty ord c=true)
  {X:Type} (cs:X→Nat→List AV→List Ob→Option (AV×List Ob)) (S:X→St) (J:X→Prop) (μ:X→Nat) {Q:Ex→St→Prop} {s:St} (x0:X) (h0:J x0) (hS:QkU o0 s (S x0))
  (round:∀ x,J x→(Q5 std ty (cs x) ord c (fun e s=>.leaf e s) (S x)).ok P w0 g0 o0 N (Q1 o0 S J μ x Q)):WP P w0 g0 o0 N (.loop c) Q s:=by
 intro a w hs
 obtain⟨ρ,l,hl,hE⟩:=hS
 let I:Act→World→Prop:=fun a w=>∃ x,J x∧Sim w0 g0 o0 N (S x) a w
 let pm:Act→World→Nat→Prop:=fun a w n=>∃ x,J x∧Sim w0 g0 o0 N (S x) a w∧μ x=n
 let m:Act→World→Nat:=fun a w=>open Classical in if h:∃ n,pm a w n then Classical.choose (Qbe _ h) else 0
 have hmin:∀ a w,I a w→pm a w (m a w)∧∀ k,pm a w k→m a w≤k:=fun a w hI=>by
  have h:∃ n,pm a w n:=by
   obtain⟨x,h1,h2⟩:=hI
   exact⟨μ x,x,h1,h2,rfl⟩
  have e:m a w=Classical.choose (Qbe _ h):=dif_pos h
  rw[e]
  exact Classical.choose_spec (Qbe _ h)
 refine wp_loop I m ⟨x0,h0,Q7D ρ hl hE hs⟩ fun a w hI=>?_
 obtain⟨⟨x,hJ,hx,hμ⟩,hle⟩:=hmin a w hI
 refine Q4X (Q:=Q1 o0 S J μ x Q) hT hm c _ _ (S x) a w hd ho (fun c a d v w h=>?_) (fun e s a' w' hs' hq=>?_) hx (round x hJ)
 ·obtain⟨e',s',h1,h2,h3⟩:=h
  cases e'<;>cases h1
 ·cases e with
  |normal =>
   obtain⟨x',h1,h2,ρ',l',h3,h4⟩:=hq
   have hs2:=Q7D ρ' h3 h4 hs'
   have hI':I a' w':=⟨x',h1,hs2⟩
   refine⟨hI',Nat.lt_of_le_of_lt ((hmin a' w' hI').2 _ ⟨x',h1,hs2,rfl⟩) ?_⟩
   rw[←hμ];exact h2
  |exit i=>exact⟨.exit i,s,rfl,hs',hq⟩
  |ret=>exact⟨.ret,s,rfl,hs',hq⟩
end
end Go.Proofs.YthbjpdijafccjaaGreat
namespace Go.Proofs.YthbjpdijafccjaaGreat
open Go.RowKit Go.Lib
theorem QlV {α:Type}(f:α→AV){l:List α}{i:Int}(h0:0≤i)(h1:i<l.length)(d:α):std.at_ (l.map f) i=f (l[i.toNat]?.getD d):=by
 show (l.map f).getD i.toNat .dead=_
 rw[List.getD_eq_getElem?_getD];exact QdA f h0 h1 d
theorem Q9V {l:List Int}{i:Int}(h0:0≤i)(h1:i<l.length):std.nth (std.cel (std.at_ (Q8 l) i)) 0=.val (.int .i64 (l[i.toNat]?.getD 0)):=by rw[Q8,QlV Qe8 h0 h1 0];rfl
theorem Qbu {x:AV}{n:Int}{k:IntKind}(h:x=.val (.int k n)):std.hasI k x:=by subst h;rfl
theorem Qc0 {x:AV}{n:Int}{k:IntKind}(h:x=.val (.int k n)):std.int x=n:=by subst h;rfl
end Go.Proofs.YthbjpdijafccjaaGreat
namespace Go.Proofs.YthbjpdijafccjaaGreat
open Go.RowKit Go.Lib Tryz
inductive Cur where
 |root (n:Int)
 |kid (n f k:Int) (up:Cur)
 deriving Inhabited
def Cur.n:Cur→Int
 |.root n=>n
 |.kid n _ _ _=>n
def Cur.f:Cur→Int
 |.root _=>0
 |.kid _ f _ _=>f
def Cur.k:Cur→Int
 |.root _=>0
 |.kid _ _ k _=>k
def upO (N:List AV):Cur→AV
 |.root _=>.val (.pointer none)
 |.kid _ _ _ up=>.ref [.ref [.slc 6 N],.val (.int .i64 up.n),.val (.int .i64 up.f),.val (.int .i64 up.k),.opt (upO N up)]
def Cur.cs (N:List AV)(c:Cur):List AV:=[.ref [.slc 6 N],.val (.int .i64 c.n),.val (.int .i64 c.f),.val (.int .i64 c.k),.opt (upO N c)]
def Qdz:List AV:=[.val (.pointer none),.val (.int .i64 0),.val (.int .i64 0),.val (.int .i64 0),.val (.pointer none)]
theorem Qkf (N:List AV)(c:Cur):Q4Z (upO N c):=by cases c<;>trivial
def Qq (l:List Node)(c:Cur):List Int:=(Qj l c.n).kids
def Q2z (l:List Node)(c:Cur)(k:Int):Cur:=.kid ((Qq l c)[k.toNat]?.getD 0) (c.f+Q1Z l ((Qq l c).take k.toNat)) k c
def Qmt (len:List AV→Int):Nat→List AV→List Ob→Option (AV×List Ob):=fun f args _=>match f,args with
 |47,[.ref [.slc 6 xs]]=>some (.val (.int .i64 (len xs)),[])
 |_,_=>none
theorem QlD (l:List Node)(n:Int)(h0:0≤n)(h1:n<l.length):BCall prog 21 [.ref [.slc 6 (Q7 l)],.val (.int .i64 n)] [] (.tup [.agg ((Cur.root n).cs (Q7 l)),.val (.int .i64 0)]) []:=by
 have cL:=Qaz l
 have hlen:Q50 (Q7 l)=l.length:=by rw[Q50,Q1g]
 refine fnN (cs:=Qmt Q50) func21 rfl (by kernel_rfl) ?_
 intro w0 g0
 generalize hp:std=p,hlen:Q50=len,hN:Q7 l=N
 generalize hT:Q5 p tys (Qmt len) _ _ _ _=T
 cbv at hT
 subst hT
 simp only[Tree.ok,Q1,S0]
 subst hp hlen hN
 refine⟨fun h=>?_,fun _=>⟨cL,fun h=>?_,fun _=>.pure rfl ⟨⟨.inl rfl,.inl rfl,.inl rfl,.inl rfl,.inr (.inr (.inl ⟨rfl,trivial⟩)),trivial⟩,.inl rfl,trivial⟩⟩⟩
 ·have h:n<0:=of_decide_eq_true h
  omega
 ·have h:Q50 (Q7 l)≤n:=of_decide_eq_true h
  omega
def QcK (kd:Int→List AV)(w:Int→Int):Nat→List AV→List Ob→Option (AV×List Ob):=fun f args _=>match f,args with
 |44,[.ref [.slc 6 _],.val (.int .i64 n)]=>some (.slc 1 (kd n),[])
 |45,[.ref [.slc 6 _],.val (.int .i64 n)]=>some (.val (.int .i64 (w n)),[])
 |_,_=>none
theorem Qff (l:List Node)(c:Cur)(k:Int)(hk:¬ (0≤k∧k<(Qq l c).length))(hn:(Qq l c).length≤1000000):BCall prog 19 [.agg (c.cs (Q7 l)),.val (.int .i64 k)] [] (.tup [.agg Qdz,.val (.bool false)]) []:=by
 have cK:=Qiv l c.n (by show (Qq l c).length≤_;omega)
 obtain⟨m,hm⟩:=Qy (Qq l c)
 have hlen:=Q26 (Qq l c)
 have hk:¬ (0≤k∧k<m):=by rw[hm.eq];exact hk
 rename ¬ (0≤k∧k<((Qq l c).length:Int))=>hk0
 clear hk0
 obtain⟨cn,hcn⟩:=exq c.n
 obtain⟨cf,hcf⟩:=exq c.f
 obtain⟨ck,hck⟩:=exq c.k
 have hkN:Q2e l cn=Q8 (Qq l c):=by rw[hcn];rfl
 rw[Cur.cs,←hcn,←hcf,←hck]
 rw[←hcn] at cK
 have cK:BCall prog 44 [.ref [.slc 6 (Q7 l)],.val (.int .i64 cn)] [] (.slc 1 (Q2e l cn)) []:=cK
 refine fnN (cs:=QcK (Q2e l) (QT l)) func19 rfl (by kernel_rfl) ?_
 intro w0 g0
 generalize hp:std=p
 generalize hkd:Q2e l=kd
 generalize hw:QT l=w
 generalize hU:upO (Q7 l) c=U
 generalize hN:Q7 l=N
 generalize hT:Q5 p tys (QcK kd w) _ _ _ _=T
 cbv at hT
 subst hT
 simp only[Tree.ok,Q1,S0]
 subst hp hkd hw hU hN
 have hkl:std.len (Q2e l cn)=m:=by show ((Q2e l cn).length:Int)=_;rw[hkN,hlen,hm.eq]
 refine⟨cK,fun _=>.pure rfl ⟨⟨.inl rfl,.inl rfl,.inl rfl,.inl rfl,.inl rfl,trivial⟩,.inl rfl,trivial⟩,fun h=>⟨fun _=>.pure rfl ⟨⟨.inl rfl,.inl rfl,.inl rfl,.inl rfl,.inl rfl,trivial⟩,.inl rfl,trivial⟩,fun h2=>?_⟩⟩
 have h:¬ k<0:=of_decide_eq_false h
 have h2:¬ std.len (Q2e l cn)≤k:=of_decide_eq_false h2
 rw[hkl] at h2
 omega
theorem QfA (l:List Node)(c:Cur)(k:Int)(h0:0≤k)(h1:k<(Qq l c).length)(hn:(Qq l c).length≤1000000)(hw:∀ n,0≤QT l n)(hs:Q1Z l (Qq l c)≤2147483647)(hf0:0≤c.f)(hf1:c.f≤2147483647) :
  BCall prog 19 [.agg (c.cs (Q7 l)),.val (.int .i64 k)] [] (.tup [.agg ((Q2z l c k).cs (Q7 l)),.val (.bool true)]) []:=by
 have cK:=Qiv l c.n (by show (Qq l c).length≤_;omega)
 have cW:=fun n=>Qkv l n
 obtain⟨cn,hcn⟩:=exq c.n
 obtain⟨cf,hcf⟩:=exq c.f
 obtain⟨ck,hck⟩:=exq c.k
 obtain⟨ks,hks⟩:=exq (Qq l c)
 obtain⟨m,hm⟩:=Qy ks
 have hkN:Q2e l cn=Q8 ks:=by rw[hcn,hks];rfl
 rw[←hks] at h1 hn hs
 rw[←hcf] at hf0 hf1
 have h1m:k<m:=by rw[hm.eq];exact h1
 have hlen:=Q26 ks
 have hkl:std.len (Q2e l cn)=m:=by show ((Q2e l cn).length:Int)=_;rw[hkN,hlen,hm.eq]
 have hE:(Q2z l c k).cs (Q7 l)=[.ref [.slc 6 (Q7 l)],.val (.int .i64 (ks[k.toNat]?.getD 0)),.val (.int .i64 (cf+Q1Z l (ks.take k.toNat))),.val (.int .i64 k),.opt (.ref [.ref [.slc 6 (Q7 l)],.val (.int .i64 cn),.val (.int .i64 cf),.val (.int .i64 ck),.opt (upO (Q7 l) c)])]:=by
  rw[hks,hcf,hcn,hck];rfl
 rw[hE,Cur.cs,←hcn,←hcf,←hck]
 rw[←hcn] at cK
 have cK:BCall prog 44 [.ref [.slc 6 (Q7 l)],.val (.int .i64 cn)] [] (.slc 1 (Q2e l cn)) []:=cK
 have hat:=Q2r (l:=ks) h0 h1
 have hcut:std.cut (Q8 ks) 0 k=Q8 (ks.take k.toNat):=by
  show ((Q8 ks).drop (0:Int).toNat).take (k-0).toNat=_
  simp[Q8,List.map_take]
 clear h1 hE
 refine fnN (cs:=QcK (Q2e l) (QT l)) func19 rfl (by kernel_rfl) ?_
 intro w0 g0
 generalize hp:std=p
 generalize hkd:Q2e l=kd
 generalize hw:QT l=w
 generalize hU:upO (Q7 l) c=U
 generalize hN:Q7 l=N
 generalize hT:Q5 p tys (QcK kd w) _ _ _ _=T
 cbv at hT
 subst hT
 simp only[Tree.ok,Q1,S0]
 subst hp hkd hw hU hN
 refine⟨cK,fun h=>?_,fun _=>⟨fun h=>?_,fun _=>⟨?_,?_⟩⟩⟩
 ·have h:k<0:=of_decide_eq_true h
  omega
 ·have h:std.len (Q2e l cn)≤k:=of_decide_eq_true h
  rw[hkl] at h;omega
 ·show std.cutok 0 k (std.len (Q2e l cn))
  rw[hkl];exact⟨Int.le_refl _,h0,by omega⟩
 have hcl:std.len (Q8 (ks.take k.toNat))=k:=by
  show ((Q8 (ks.take k.toNat)).length:Int)=k
  have:=hm.eq
  rw[Q26,List.length_take];omega
 rw[←hkN] at hcut
 obtain⟨aw,haw⟩:=exq (fun i=>cf+Q1Z l (ks.take i.toNat):Int→Int)
 have hwk:cf+Q1Z l (ks.take k.toNat)=aw k:=by rw[haw]
 rw[hwk]
 have hcl2:std.len (std.cut (Q2e l cn) 0 k)=k:=by rw[hcut,hcl]
 refine Q1r (cs:=QcK (Q2e l) (QT l)) (by kernel_rfl) (X:=Int) (fun i=>⟨[(1,.val (.int .i64 k)),(2,.box 0 0),(4,.box 1 0),(6,.slc 1 (Q8 ks)),(7,.val (.int .i64 (aw i))),(28,.slc 1 (Q8 (ks.take k.toNat))),(29,.val (.int .i64 k)),(30,.val (.int .i64 i))],[.box [.ref [.slc 6 (Q7 l)],.val (.int .i64 cn),.val (.int .i64 cf),.val (.int .i64 ck),.opt (upO (Q7 l) c)],.box Qdz]⟩) (fun i=>0≤i∧i≤k) (fun i=>(k-i).toNat) 0 ?_ ?_ ?_
 ·exact⟨Int.le_refl _,h0⟩
 ·refine⟨[some 0,some 1],_,rfl,?_⟩
  have hw0:cf=aw 0:=by rw[haw];simp[Q1Z]
  repeat first
   |exact trivial
   |refine⟨gA hkN,?_⟩
   |refine⟨gA hcut,?_⟩
   |refine⟨gI hcl2,?_⟩
   |refine⟨gI hw0,?_⟩
   |refine⟨rfl,?_⟩
 ·rintro i ⟨hi0,hi1⟩
  have hw1:=Q5b hw (ks.take i.toNat)
  have hw2:=Q8H hw ks i.toNat
  rcases Int.lt_or_eq_of_le hi1 with hlt|heq
  ·have hm1:=hm.eq
   have hil:i.toNat<ks.length:=by omega
   have hx:(Q8 (ks.take k.toNat))[i.toNat]?.getD .dead=.val (.int .i64 (ks[i.toNat]?.getD 0)):=by
    have:=Q2r (l:=ks.take k.toNat) (i:=i) hi0 (by rw[List.length_take];omega)
    rw[this,List.getElem?_take,if_pos (by omega)]
   have hxc:=Q9V (l:=ks.take k.toNat) (i:=i) hi0 (by rw[List.length_take];omega)
   rw[List.getElem?_take,if_pos (by omega)] at hxc
   have hnx:Q1Z l (ks.take (i+1).toNat)=Q1Z l (ks.take i.toNat)+QT l (ks[i.toNat]?.getD 0):=by
    rw[show (i+1).toNat=i.toNat+1 by omega,List.take_add_one,List.getElem?_eq_getElem hil]
    show (((ks.take i.toNat)++[ks[i.toNat]]).map (QT l)).sum=_
    rw[List.map_append,List.sum_append]
    simp[Q1Z]
   have hw3:=Q8H hw ks (i+1).toNat
   rw[hnx] at hw3
   have hw4:=hw (ks[i.toNat]?.getD 0)
   have haw2:aw (i+1)=aw i+QT l (ks[i.toNat]?.getD 0):=by rw[haw];simp only[hnx];omega
   have hawi:aw i=cf+Q1Z l (ks.take i.toNat):=by rw[haw]
   have hr1:0≤aw i+QT l (ks[i.toNat]?.getD 0)∧aw i+QT l (ks[i.toNat]?.getD 0)≤4294967294:=by omega
   obtain⟨y,hy⟩:=exq (ks[i.toNat]?.getD 0)
   rw[←hy] at hx hxc haw2 hr1
   clear hm1 hw1 hw2 hw3 hnx hw4 hawi haw hwk
   have hlt':=hlt
   generalize hp:std=p
   generalize hkd:Q2e l=kd
   generalize hw:QT l=w
   generalize hU:upO (Q7 l) c=U
   generalize hN:Q7 l=N
   generalize hKS:Q8 ks=KS
   generalize hKT:Q8 (ks.take k.toNat)=KT
   generalize hT:Q5 p tys (QcK kd w) _ _ _ _=T
   cbv at hT
   subst hT
   simp only[Tree.ok,Q1,S0]
   subst hp hkd hw hU hN hKS hKT
   have hy3:=hxc
   have hy2:=Qc0 hxc
   have e1:aw i+QT l y=aw (i+1):=haw2.symm
   refine⟨fun _=>⟨?_,⟨?_,trivial⟩,cW _,?_,?_,i+1,⟨by omega,by omega⟩,by omega,[some 0,some 1],_,rfl,?_⟩,fun h=>?_⟩
   ·show 0≤i∧i<std.len (Q8 (ks.take k.toNat))
    rw[hcl];omega
   ·show std.nth (std.cel (std.at_ (Q8 (ks.take k.toNat)) i)) 0=.val (.int .i64 (std.int (std.nth (std.cel (std.at_ (Q8 (ks.take k.toNat)) i)) 0)))
    rw[hy2,hy3]
   ·show (-9223372036854775808:Int)≤aw i+QT l (std.int (std.nth (std.cel (std.at_ (Q8 (ks.take k.toNat)) i)) 0))∧aw i+QT l (std.int (std.nth (std.cel (std.at_ (Q8 (ks.take k.toNat)) i)) 0))≤(9223372036854775807:Int)
    rw[hy2];omega
   ·show (-9223372036854775808:Int)≤i+1∧i+1≤(9223372036854775807:Int)
    have:=hm.eq
    omega
   ·have e2:std.add (aw i) (QT l (std.int (std.nth (std.cel (std.at_ (Q8 (ks.take k.toNat)) i)) 0)))=aw (i+1):=by rw[hy2];exact e1
    repeat first
     |exact trivial
     |refine⟨rfl,?_⟩
     |refine⟨e2,?_⟩
     |refine⟨gI (e2),?_⟩
     |refine⟨gA (e2),?_⟩
     |refine⟨gB (e2),?_⟩
     |refine⟨gR (e2),?_⟩
     |refine⟨gT (e2),?_⟩
   ·have h:¬ i<k:=of_decide_eq_false h
    omega
  ·rw[heq]
   clear hw1 hw2 haw hwk
   generalize hp:std=p
   generalize hkd:Q2e l=kd
   generalize hw:QT l=w
   generalize hU:upO (Q7 l) c=U
   generalize hN:Q7 l=N
   generalize hKS:Q8 ks=KS
   generalize hKT:Q8 (ks.take k.toNat)=KT
   generalize hT:Q5 p tys (QcK kd w) _ _ _ _=T
   cbv at hT
   subst hT
   simp only[Tree.ok,Q1,S0]
   subst hp hkd hw hU hN hKS hKT
   refine⟨fun h=>?_,fun _=>?_⟩
   ·have h:k<k:=of_decide_eq_true h
    omega
   rw[if_pos trivial]
   generalize hp:std=p
   generalize hkd:Q2e l=kd
   generalize hw:QT l=w
   generalize hU:upO (Q7 l) c=U
   generalize hN:Q7 l=N
   generalize hKS:Q8 ks=KS
   generalize hKT:Q8 (ks.take k.toNat)=KT
   generalize hT:Q5 p tys (QcK kd w) _ _ _ _=T
   cbv at hT
   subst hT
   simp only[Tree.ok,Q1,S0]
   subst hp hkd hw hU hN hKS hKT
   have hkm:=hm.eq
   have hcl3:std.len (Q8 ks)=m:=by show ((Q8 ks).length:Int)=m;rw[Q26,hm.eq]
   have hc:=Q9V (l:=ks) h0 (by omega)
   refine⟨?_,⟨Qbu hc,trivial⟩,.pure rfl ⟨⟨.inl rfl,.inl (gI (Qc0 hc)),.inl rfl,.inl rfl,.inr (.inr (.inl ⟨rfl,trivial⟩)),trivial⟩,.inl rfl,trivial⟩⟩
   show 0≤k∧k<std.len (Q8 ks)
   rw[hcl3];omega
def QmI (k:Int→Int):Nat→List AV→List Ob→Option (AV×List Ob):=fun f args _=>match f,args with
 |22,[.ref [.slc 6 _],.val (.int .i64 n)]=>some (.val (.int .i64 (k n)),[])
 |_,_=>none
theorem Qbm (l:List Node)(c:Cur):BCall prog 9 [.agg (c.cs (Q7 l))] [] (.val (.int .i64 (Qj l c.n).kind)) []:=by
 have cK:=Qlx l c.n
 rw[Cur.cs]
 obtain⟨cn,hcn⟩:=exq c.n
 obtain⟨cf,hcf⟩:=exq c.f
 obtain⟨ck,hck⟩:=exq c.k
 rw[←hcn] at cK ⊢
 rw[←hcf,←hck]
 refine fnN (cs:=QmI (Q19 l)) func9 rfl (by kernel_rfl) ?_
 intro w0 g0
 generalize hp:std=p
 generalize hkd:Q19 l=kd
 generalize hU:upO (Q7 l) c=U
 generalize hN:Q7 l=N
 generalize hT:Q5 p tys (QmI kd) _ _ _ _=T
 cbv at hT
 subst hT
 simp only[Tree.ok,Q1,S0]
 subst hp hkd hU hN
 exact⟨cK,.pure rfl (.inl rfl)⟩
def toC (l:List Node):Cur→List Int→Option Cur
 |c,[]=>some c
 |c,k::r=>if 0≤k∧k<(Qq l c).length then toC l (Q2z l c k) r else none
def Qmg (N:List AV):Option Cur→List AV
 |some c=>c.cs N
 |none=>Qdz
def Qiq (n f:Int)(k:Int)(U:List AV):Nat→List AV→List Ob→Option (AV×List Ob):=fun g args _=>match g,args with
 |19,[.agg [.ref [.slc 6 N],_,_,_,_],.val (.int .i64 _)]=>some (.tup [.agg [.ref [.slc 6 N],.val (.int .i64 n),.val (.int .i64 f),.val (.int .i64 k),.opt (.ref U)],.val (.bool true)],[])
 |_,_=>none
def Qck:Nat→List AV→List Ob→Option (AV×List Ob):=fun g args _=>match g,args with
 |19,[.agg [.ref [.slc 6 _],_,_,_,_],.val (.int .i64 _)]=>some (.tup [.agg Qdz,.val (.bool false)],[])
 |_,_=>none
structure CurOk (l:List Node) (c:Cur):Prop where
 n:(Qq l c).length≤1000000
 s:Q1Z l (Qq l c)≤2147483647
 f0:0≤c.f
 f1:c.f≤2147483647
theorem Qfj (l:List Node):∀ (p:List Int) (c:Cur) (q:List Int),toC l c (p++q)=(toC l c p).bind fun x=>toC l x q
 | [],_,_=>rfl
 |k::r,c,q=>by
  show (if _ then _ else _)=Option.bind (if _ then _ else _) _
  split
  ·exact Qfj l r _ q
  ·rfl
def QjC (l:List Node)(pt:List Int)(x:Int×Cur):Nat→List AV→List Ob→Option (AV×List Ob) :=
 if x.1.toNat<pt.length∧0≤pt[x.1.toNat]?.getD 0∧pt[x.1.toNat]?.getD 0<(Qq l x.2).length then
  Qiq (Q2z l x.2 (pt[x.1.toNat]?.getD 0)).n (Q2z l x.2 (pt[x.1.toNat]?.getD 0)).f (pt[x.1.toNat]?.getD 0) (x.2.cs (Q7 l))
 else Qck
theorem Qn4 (l:List Node)(hw:∀ n,0≤QT l n)(c:Cur)(pt:List Int)(hp:pt.length≤1000000)(hok:∀ j x,toC l c (pt.take j)=some x→CurOk l x) :
  BCall prog 23 [.agg (c.cs (Q7 l)),.slc 1 (Q8 pt)] [] (.tup [.agg (Qmg (Q7 l) (toC l c pt)),.val (.bool (toC l c pt).isSome)]) []:=by
 obtain⟨m,hm⟩:=Qy pt
 have hlen:std.len (Q8 pt)=m:=by show ((Q8 pt).length:Int)=m;rw[Q26,hm.eq]
 obtain⟨R,hR⟩:=exq (toC l c pt)
 rw[←hR]
 obtain⟨cn,hcn⟩:=exq c.n
 obtain⟨cf,hcf⟩:=exq c.f
 obtain⟨ck,hck⟩:=exq c.k
 rw[Cur.cs,←hcn,←hcf,←hck]
 refine fnN (cs:=cs0) func23 rfl (by kernel_rfl) ?_
 intro w0 g0
 generalize hp:std=p
 generalize hU:upO (Q7 l) c=U
 generalize hN:Q7 l=N
 generalize hPA:Q8 pt=PA
 generalize hT:Q5 p tys (cs0) _ _ _ _=T
 cbv at hT
 subst hT
 simp only[Tree.ok,Q1,S0]
 subst hp hU hN hPA
 refine Q4F (cs:=QjC l pt) (ord:=fun _=>.nil) Q6O (by kernel_rfl) (by kernel_rfl) (by kernel_rfl) (X:=Int×Cur) (fun x=>⟨[(2,.box 0 0),(4,.box 1 0),(14,.slc 1 (Q8 pt)),(15,.val (.int .i64 m)),(16,.val (.int .i64 x.1))],[.box (x.2.cs (Q7 l)),.box Qdz]⟩) (fun x=>0≤x.1∧x.1≤m∧toC l c (pt.take x.1.toNat)=some x.2∧toC l x.2 (pt.drop x.1.toNat)=R) (fun x=>(m-x.1).toNat) (0,c) ?_ ?_ ?_
 ·exact⟨Int.le_refl _,by have:=hm.eq;show (0:Int)≤m;omega,rfl,hR.symm⟩
 ·refine⟨[some 0,some 1],_,rfl,?_⟩
  subst hcn hcf hck
  repeat first
   |exact trivial
   |refine⟨rfl,?_⟩
   |refine⟨hlen,?_⟩
   |refine⟨gI (hlen),?_⟩
   |refine⟨gA (hlen),?_⟩
   |refine⟨gB (hlen),?_⟩
   |refine⟨gR (hlen),?_⟩
   |refine⟨gT (hlen),?_⟩
 ·rintro⟨i,x⟩ ⟨hi0,hi1,ht,hd⟩
  simp only at hi0 hi1 ht hd
  have hx:=hok _ _ ht
  obtain⟨xn,hxn⟩:=exq x.n
  obtain⟨xf,hxf⟩:=exq x.f
  obtain⟨xk,hxk⟩:=exq x.k
  rcases Int.lt_or_eq_of_le hi1 with hlt|heq
  ·have hil:i.toNat<pt.length:=by have:=hm.eq;omega
   have hpc:=Q9V (l:=pt) hi0 (by have:=hm.eq;omega)
   obtain⟨k,hk⟩:=exq (pt[i.toNat]?.getD 0)
   have hke:pt[i.toNat]?=some k:=by rw[hk,List.getElem?_eq_getElem hil];rfl
   have hdr:pt.drop i.toNat=k::pt.drop (i+1).toNat:=by
    rw[show (i+1).toNat=i.toNat+1 by omega,List.drop_eq_getElem_cons hil,hk,List.getElem?_eq_getElem hil];rfl
   have htk:pt.take (i+1).toNat=pt.take i.toNat++[k]:=by
    rw[show (i+1).toNat=i.toNat+1 by omega,List.take_add_one,hke];rfl
   rw[←hk] at hpc
   rw[hdr] at hd
   have hbd:(m:Int)≤1000000:=by have:=hm.eq;omega
   by_cases hin:0≤k∧k<(Qq l x).length
   ·have cD:=QfA l x k hin.1 hin.2 hx.n hw hx.s hx.f0 hx.f1
    have ht2:toC l c (pt.take (i+1).toNat)=some (Q2z l x k):=by
     rw[htk,Qfj,ht]
     show (if _ then _ else _)=_
     rw[if_pos hin];rfl
    have hd2:toC l (Q2z l x k) (pt.drop (i+1).toNat)=R:=by
     rw[←hd]
     show _=(if _ then _ else _)
     rw[if_pos hin]
    have hcs:QjC l pt (i,x)=Qiq (Q2z l x k).n (Q2z l x k).f k (x.cs (Q7 l)):=by
     rw[hk] at hin ⊢
     exact if_pos ⟨hil,hin⟩
    rw[hcs]
    obtain⟨d,hd'⟩:=exq (Q2z l x k)
    have hdk:d.k=k:=by rw[hd'];rfl
    have hdu:upO (Q7 l) d=.ref (x.cs (Q7 l)):=by rw[hd'];rfl
    rw[←hd'] at cD ht2 hd2 ⊢
    obtain⟨dn,hdn⟩:=exq d.n
    obtain⟨df,hdf⟩:=exq d.f
    rw[←hdn,←hdf]
    simp only[Cur.cs] at cD ⊢
    rw[hdu,hdk,←hdn,←hdf] at cD
    simp only[Cur.cs] at cD
    rw[←hxn,←hxf,←hxk] at cD ⊢
    clear hin hcs hdr htk hd
    generalize hp:std=p
    generalize hU:upO (Q7 l) x=U
    generalize hN:Q7 l=N
    generalize hPA:Q8 pt=PA
    generalize hT:Q5 p tys (Qiq dn df k [.ref [.slc 6 N],.val (.int .i64 xn),.val (.int .i64 xf),.val (.int .i64 xk),.opt U]) _ _ _ _=T
    cbv at hT
    subst hT
    simp only[Tree.ok,Q1,S0]
    subst hp hU hN hPA
    refine⟨fun _=>⟨?_,⟨Qbu hpc,trivial⟩,?_,fun h=>?_,fun _=>⟨?_,(i+1,d),⟨?_,?_,ht2,hd2⟩,?_,[some 0,some 1],_,rfl,?_⟩⟩,fun h=>?_⟩
    ·show 0≤i∧i<std.len (Q8 pt)
     rw[hlen];omega
    ·show BCall _ _ [.agg _,.val (.int .i64 (std.int (std.nth (std.cel (std.at_ (Q8 pt) i)) 0)))] _ _ _
     rw[Qc0 hpc];exact cD
    ·exact absurd h (by decide)
    ·show (-9223372036854775808:Int)≤i+1∧i+1≤(9223372036854775807:Int)
     omega
    ·show 0≤i+1
     omega
    ·show i+1≤m
     omega
    ·show (m-(i+1)).toNat<(m-i).toNat
     omega
    ·have eu:upO (Q7 l) d=.ref [.ref [.slc 6 (Q7 l)],.val (.int .i64 xn),.val (.int .i64 xf),.val (.int .i64 xk),.opt (upO (Q7 l) x)]:=by rw[hdu,hxn,hxf,hxk];rfl
     simp only[Cur.cs]
     rw[eu,hdk,←hdn,←hdf]
     repeat first
      |exact trivial
      |refine⟨rfl,?_⟩
    ·have h:¬ i<m:=of_decide_eq_false h
     omega
   ·have cD:=Qff l x k hin hx.n
    have hRn:R=none:=by
     rw[←hd]
     show (if _ then _ else _)=_
     rw[if_neg hin]
    have hcs:QjC l pt (i,x)=Qck:=by
     rw[hk] at hin
     exact if_neg fun h=>hin h.2
    rw[hcs,hRn]
    simp only[Cur.cs] at cD ⊢
    rw[←hxn,←hxf,←hxk] at cD ⊢
    clear hin hcs hdr htk hd
    generalize hp:std=p
    generalize hU:upO (Q7 l) x=U
    generalize hN:Q7 l=N
    generalize hPA:Q8 pt=PA
    generalize hT:Q5 p tys (Qck) _ _ _ _=T
    cbv at hT
    subst hT
    simp only[Tree.ok,Q1,S0]
    subst hp hU hN hPA
    refine⟨fun _=>⟨?_,⟨Qbu hpc,trivial⟩,?_,fun h=>?_,fun h=>?_⟩,fun h=>?_⟩
    ·show 0≤i∧i<std.len (Q8 pt)
     rw[hlen];omega
    ·show BCall _ _ [.agg _,.val (.int .i64 (std.int (std.nth (std.cel (std.at_ (Q8 pt) i)) 0)))] _ _ _
     rw[Qc0 hpc];exact cD
    ·generalize hp:std=p
     generalize hU:upO (Q7 l) x=U
     generalize hN:Q7 l=N
     generalize hPA:Q8 pt=PA
     generalize hT:Q4N p tys false _ _ _=T
     cbv at hT
     subst hT
     simp only[Tree.ok,Q1,S0]
     subst hp hU hN hPA
     exact .pure rfl ⟨⟨.inl rfl,.inl rfl,.inl rfl,.inl rfl,.inl rfl,trivial⟩,.inl rfl,trivial⟩
    ·exact absurd h (by decide)
    ·have h:¬ i<m:=of_decide_eq_false h
     omega
  ·have hd0:pt.drop i.toNat=[]:=List.drop_eq_nil_of_le (by have:=hm.eq;omega)
   rw[hd0] at hd
   have hRs:R=some x:=hd.symm
   rw[hRs,heq]
   have hcs:QjC l pt (m,x)=Qck:=by
    refine if_neg fun h=>?_
    have:=h.1
    have:=hm.eq
    omega
   simp only[Cur.cs]
   rw[←hxn,←hxf,←hxk,hcs]
   generalize hp:std=p
   generalize hU:upO (Q7 l) x=U
   generalize hN:Q7 l=N
   generalize hPA:Q8 pt=PA
   generalize hT:Q5 p tys (Qck) _ _ _ _=T
   cbv at hT
   subst hT
   simp only[Tree.ok,Q1,S0]
   subst hp hU hN hPA
   refine⟨fun h=>?_,fun _=>?_⟩
   ·have h:m<m:=of_decide_eq_true h
    omega
   rw[if_pos trivial]
   generalize hp:std=p
   generalize hU:upO (Q7 l) x=U
   generalize hN:Q7 l=N
   generalize hPA:Q8 pt=PA
   generalize hT:Q5 p tys cs0 _ _ _ _=T
   cbv at hT
   subst hT
   simp only[Tree.ok,Q1,S0]
   subst hp hU hN hPA
   subst hxn hxf hxk
   exact .pure rfl ⟨⟨.inl rfl,.inl rfl,.inl rfl,.inl rfl,.inl rfl,trivial⟩,.inl rfl,trivial⟩
end Go.Proofs.YthbjpdijafccjaaGreat
namespace Go.Proofs.YthbjpdijafccjaaGreat
open Go.RowKit Go.Lib Tryz
def Qd6 (g:Nat→Option (List Srt))(ty:Tys):Nat→List Field→Option (List Srt)
 |_,[]=>some []
 | off, f :: r => if f.name ≠ "_" ∧ f.offset = off ∧ (Q4 f.type ty).ok = true then
   (match g f.type,Qd6 g ty (off+(Q4 f.type ty).size) r with
   |some s,some q=>if s.length=(Q4 f.type ty).size then some (s++q) else none
   |_,_=>none) else none
def QbA (P:Program)(ty:Tys):Nat→Nat→Option (List Srt)
 |0,_=>none
 |d+1,t=>match P.underlying t with
  |some (.struct fs)=>if P.stoodInHeld t=false then Qd6 (QbA P ty d) ty 0 fs.toList else none
  |some .bool=>some [.boo]
  |some .string=>some [.str]
  |some (.int k)=>some [.int k]
  |_=>none
section
variable {P:Program} {ty:Tys}
def mkV (ty:Tys)(t:Nat)(xs:List Value):Value:=if (Q4 t ty).agg=true then .agg xs.toArray else xs.headD undef
def Q9d (xs ys:List Value):Bool:=(xs.zip ys).all fun q=>eqV q.1 q.2
theorem Qjg {a b c d:List Value}(h:a.length=c.length):Q9d (a++b) (c++d)=(Q9d a c&&Q9d b d):=by
 unfold Q9d
 rw[List.zip_append h,List.all_append]
theorem QeX {xs:List Value}{sh:List Srt}(h:xs.map Q4a=sh.map some):xs.length=sh.length:=by
 have:=congrArg List.length h
 simpa using this
theorem Q6q {xs:List Value}{s:Srt}(h:xs.map Q4a=[s].map some):∃ x,xs=[x]∧Q4a x=some s:=by
 cases xs with
 |nil=>cases h
 |cons x t =>
  obtain⟨h1,h2⟩:=List.cons.inj h
  obtain rfl:t=[]:=by simpa using h2
  exact⟨x,rfl,h1⟩
theorem Qbv (hT:TyOk P ty){t:Nat}(hk:(Q4 t ty).ok=true){d:TypeDesc}(h:P.underlying t=some d):(Q4 t ty).agg=(Q2u d).1:=by
 obtain⟨d',h1,h2⟩:=(Q32 hT hk).u
 rw[h] at h1
 cases h1
 rw[h2]
theorem Qf3 (hT:TyOk P ty){t:Nat}(hk:(Q4 t ty).ok=true)(xs:List Value)(off:Nat)(hl:off+(Q4 t ty).size≤xs.length)(W:World) :
  (part t xs.toArray off).run P W=.ok (mkV ty t ((xs.drop off).take (Q4 t ty).size)) W:=by
 have ti:=Q32 hT hk
 unfold part mkV
 rw[Sem.run_bind,ti.isAgg W]
 simp only[Result.andThen_ok]
 by_cases hg:(Q4 t ty).agg=true
 ·rw[if_pos hg,if_pos hg,Sem.run_bind,ti.size W]
  simp only[Result.andThen_ok,Sem.run_pure]
  congr 2
  apply Array.toList_inj.1
  simp[List.take_drop]
 ·rw[if_neg hg,if_neg hg]
  have h1:=ti.one (by simpa using hg)
  rw[h1]
  have h2:off<xs.length:=by omega
  have:xs.toArray[off]?=some xs[off]:=by simp[h2]
  rw[this,List.drop_eq_getElem_cons h2]
  rfl
theorem QcC (hT:TyOk P ty){g:Nat→Option (List Srt)}{n:Nat}
  (ih:∀ t sh,g t=some sh→(Q4 t ty).ok=true→∀ (xs ys:List Value) (W:World),xs.map Q4a=sh.map some→ys.map Q4a=sh.map some→(Op.equalIn n t (mkV ty t xs) (mkV ty t ys)).run P W=.ok (Q9d xs ys) W) :
  ∀ (fs:List Field) (off:Nat) (sh:List Srt),Qd6 g ty off fs=some sh→∀ (xs ys:List Value) (W:World),off≤xs.length→off≤ys.length→(xs.drop off).map Q4a=sh.map some→(ys.drop off).map Q4a=sh.map some →
   (Op.eqFields n xs.toArray ys.toArray fs).run P W=.ok (Q9d (xs.drop off) (ys.drop off)) W
 | [],off,sh,h,xs,ys,W,_,_,hx,hy=>by
  obtain rfl:[]=sh:=by simpa[Qd6] using h
  have hx:xs.drop off=[]:=by simpa using hx
  have hy:ys.drop off=[]:=by simpa using hy
  rw[hx,hy];rfl
 |f::r,off,sh,h,xs,ys,W,hox,hoy,hx,hy=>by
  simp only[Qd6] at h
  split at h
  ·rename_i hf
   obtain⟨hn,ho,hk⟩:=hf
   split at h
   ·rename_i s q hs hq
    split at h
    ·rename_i hl
     obtain rfl:s++q=sh:=by simpa using h
     have lx:=QeX hx
     have ly:=QeX hy
     rw[List.length_drop,List.length_append] at lx ly
     have ex:xs.drop off=(xs.drop off).take s.length++xs.drop (off+s.length):=by rw[←List.drop_drop,List.take_append_drop]
     have ey:ys.drop off=(ys.drop off).take s.length++ys.drop (off+s.length):=by rw[←List.drop_drop,List.take_append_drop]
     have lxt:((xs.drop off).take s.length).length=s.length:=by rw[List.length_take,List.length_drop];omega
     have lyt:((ys.drop off).take s.length).length=s.length:=by rw[List.length_take,List.length_drop];omega
     rw[ex,List.map_append,List.map_append] at hx
     rw[ey,List.map_append,List.map_append] at hy
     obtain⟨hx1,hx2⟩:=List.append_inj hx (by simp only[List.length_map];exact lxt)
     obtain⟨hy1,hy2⟩:=List.append_inj hy (by simp only[List.length_map];exact lyt)
     have rc:=QcC hT ih r (off+(Q4 f.type ty).size) q hq xs ys
     rw[←hl] at rc
     have one:=ih f.type s hs hk _ _ W hx1 hy1
     rw[ex,ey,Qjg (by rw[lxt,lyt])]
     simp only[Op.eqFields]
     rw[if_pos hn,Sem.run_bind,ho,Qf3 hT hk xs off (by omega) W]
     simp only[Result.andThen_ok]
     rw[Sem.run_bind,Qf3 hT hk ys off (by omega) W]
     simp only[Result.andThen_ok]
     rw[Sem.run_bind,←hl,one]
     simp only[Result.andThen_ok]
     cases hb:Q9d ((xs.drop off).take s.length) ((ys.drop off).take s.length) with
     |false=>simp
     |true=>simpa using rc W (by omega) (by omega) hx2 hy2
    ·cases h
   ·cases h
  ·cases h
theorem QaY (hT:TyOk P ty):∀ (d e t:Nat) (sh:List Srt),QbA P ty d t=some sh→(Q4 t ty).ok=true→∀ (xs ys:List Value) (W:World),xs.map Q4a=sh.map some→ys.map Q4a=sh.map some →
  (Op.equalIn (e+d) t (mkV ty t xs) (mkV ty t ys)).run P W=.ok (Q9d xs ys) W
 |0,_,_,_,h,_,_,_,_,_,_=>by cases h
 |d+1,e,t,sh,h,hk,xs,ys,W,hx,hy=>by
  simp only[QbA] at h
  split at h
  ·rename_i fs hu
   split at h
   ·rename_i hp
    have hg:(Q4 t ty).agg=true:=Qbv hT hk hu
    have hS:P.underlying t=some (.struct (P.fieldsOf t)):=by
     rw[hu];simp[Program.fieldsOf,hu]
    have hF:P.fieldsOf t=fs:=by simp[Program.fieldsOf,hu]
    unfold mkV
    rw[if_pos hg,if_pos hg,←Nat.add_assoc,run_equalIn_agg W _ _ _ _ hS hp,hF]
    exact QcC hT (fun t sh h hk xs ys W hx hy=>QaY hT d e t sh h hk xs ys W hx hy) fs.toList 0 sh h xs ys W (Nat.zero_le _) (Nat.zero_le _) hx hy
   ·cases h
  ·rename_i hu
   have hg:(Q4 t ty).agg=false:=Qbv hT hk hu
   obtain rfl:[Srt.boo]=sh:=by simpa using h
   obtain⟨x,rfl,hx1⟩:=Q6q hx
   obtain⟨y,rfl,hy1⟩:=Q6q hy
   cases x<;>simp only[Q4a,Option.some.injEq,reduceCtorEq] at hx1
   cases y<;>simp only[Q4a,Option.some.injEq,reduceCtorEq] at hy1
   unfold mkV
   rw[if_neg (by rw[hg];decide),if_neg (by rw[hg];decide)]
   rw[←Nat.add_assoc]
   refine (run_equalIn_bool' W _ _ _ _ hu).trans ?_
   simp[Q9d,eqV]
  ·rename_i hu
   have hg:(Q4 t ty).agg=false:=Qbv hT hk hu
   obtain rfl:[Srt.str]=sh:=by simpa using h
   obtain⟨x,rfl,hx1⟩:=Q6q hx
   obtain⟨y,rfl,hy1⟩:=Q6q hy
   cases x<;>simp only[Q4a,Option.some.injEq,reduceCtorEq] at hx1
   cases y<;>simp only[Q4a,Option.some.injEq,reduceCtorEq] at hy1
   unfold mkV
   rw[if_neg (by rw[hg];decide),if_neg (by rw[hg];decide)]
   rw[←Nat.add_assoc]
   refine (run_equalIn_string W _ _ _ _ hu).trans ?_
   simp[Q9d,eqV]
  ·rename_i k hu
   have hg:(Q4 t ty).agg=false:=Qbv hT hk hu
   obtain rfl:[Srt.int k]=sh:=by simpa using h
   obtain⟨x,rfl,hx1⟩:=Q6q hx
   obtain⟨y,rfl,hy1⟩:=Q6q hy
   cases x<;>simp only[Q4a,Option.some.injEq,Srt.int.injEq,reduceCtorEq] at hx1
   cases y<;>simp only[Q4a,Option.some.injEq,Srt.int.injEq,reduceCtorEq] at hy1
   subst hx1 hy1
   unfold mkV
   rw[if_neg (by rw[hg];decide),if_neg (by rw[hg];decide)]
   rw[←Nat.add_assoc]
   refine (run_equalIn_int W _ _ _ _ _ _ hu).trans ?_
   simp[Q9d,eqV]
  ·cases h
theorem EqOk.plan (hT:TyOk P ty){T:Nat}{sh:List Srt}(h:QbA P ty 8 T=some sh)(hk:(Q4 T ty).ok=true)(ha:(Q4 T ty).agg=true)(hg:P.eqGuardType P.depth T=false):EqOk P T sh:=by
 intro xs ys x y W hx hy
 have key:=QaY hT 8 9992 T sh h hk xs ys W hx hy
 unfold mkV at key
 rw[if_pos ha,if_pos ha] at key
 refine⟨run_eqGuard_agg W _ _ _ _ _ _ hg,run_eqGuard_agg W _ _ _ _ _ _ hg,?_,?_⟩
 ·rw[run_eql_struct]
  rw[show (10000:Nat)=9992+8 from rfl,key];rfl
 ·rw[run_neq_struct]
  rw[show (10000:Nat)=9992+8 from rfl,key];rfl
end
theorem QhS:EqOk prog 53 [.int .i64,.int .i64,.int .i64]:=EqOk.plan Q6O (by kernel_rfl) (by kernel_rfl) (by kernel_rfl) (by kernel_rfl)
end Go.Proofs.YthbjpdijafccjaaGreat
namespace Go.Proofs.YthbjpdijafccjaaGreat
open Go.RowKit Go.Lib
def gl (w:World):Gh:=⟨fun b _=>b<w.heap.size,fun _=>none,fun _=>0,fun _=>false⟩
theorem Qkk (w:World):Mem w (gl w) [] :=
 ⟨(fun id cs h=>by simp at h),(fun id cs h=>by simp at h),(fun id s p h=>by simp at h),(fun b id h=>by cases h),(fun b o h=>⟨h,fun id h2=>by cases h2⟩),(fun id et sz fz e xs h=>by simp at h),(fun b h=>by cases h),(fun b b' id h=>by cases h)⟩
theorem BCall.law {P:Program}{f:Nat}{vs:List Value}{args:List AV}{res:Value}(h:BCall P f args [] (.val res) [])(w:World)(hL:Q3E w (gl w) [] vs args) :
  Calls P f vs.toArray w fun e w'=>e=.returned res∧Below w.heap.size w w' :=
 (h.2 w (gl w) vs (Qkk w) hL).mono fun e w' ⟨v,g',k1,k2,k3,k4⟩=>by
  have hv:v=res:=ARel.valEq (g:=g') (w:=w') (ob:=[]) k3
  subst hv
  exact⟨k1,k4.os,k4.tape,k4.output,k4.size,fun b hb=>k4.keep b hb rfl⟩
theorem argL_nil {w:World}{g:Gh}{ob:List Ob}:Q3E w g ob [] []:=⟨rfl,fun j v x h=>by simp at h⟩
theorem argL_cons {w:World}{g:Gh}{ob:List Ob}{v:Value}{x:AV}{vs:List Value}{xs:List AV}(h:ARel1 w g ob v x)(hr:Q3E w g ob vs xs):Q3E w g ob (v::vs) (x::xs):=by
 refine⟨by simp[hr.1],fun j u y hu hy=>?_⟩
 cases j with
 |zero =>
  obtain rfl:v=u:=by simpa using hu
  obtain rfl:x=y:=by simpa using hy
  exact h
 |succ j=>exact hr.2 j u y (by simpa using hu) (by simpa using hy)
theorem okWide_spot {P:Program}{W:World}{r:Reach}{base:Nat}{t e:TypeId}{x:Addr}{l c:Nat}(ht:P.underlying t=some (.slice e))(h:Value.okWide P W r base t (.slice (some x) l c)):x.spot=none:=by
 simp only[Value.okWide,ht,Cell.okWide,Cell.ok] at h
 exact h.2.2.2.1
def QiC (k:IntKind)(w:World)(a:Option Addr)(len cap:Nat)(zs:List Int):Prop :=
 (a=none∧len=0∧cap=0∧zs=[]) ∨
 ∃ x,a=some x∧len≤cap∧cap≤maxLen∧zs.length=cap∧(∀ i,i<zs.length→w.cell? (x.add i)=some (.int k (zs.getD i 0)))∧∀ n∈zs,(Lit.int k n).wf=true
theorem Qjr {k:IntKind}{w:World}{a:Option Addr}{len cap:Nat}{zs:List Int}(h:QiC k w a len cap zs)(hs:∀ x,a=some x→x.spot=none) :
  ARel1 w (gl w) [] (.slice a len cap) (.slc 1 ((zs.take len).map fun n=>.val (.int k n))):=by
 have hr:=(Qb8 h).1
 have hl:len=((zs.take len).map fun n=>AV.val (.int k n)).length:=by
  rcases h with ⟨_,rfl,_,rfl⟩|⟨x,_,h1,_,h2,_⟩
  ·rfl
  ·simp;omega
 refine Qeb hr (fun b o hb=>hb) hl (fun x hx=>by obtain⟨n,_,rfl⟩:=List.mem_map.1 hx;rfl) (fun x hx=>?_) ?_
 ·obtain⟨b,o,s⟩:=x
  exact⟨b,o,by rw[show s=none from hs _ hx]⟩
 ·have:QL ((zs.take len).map fun n=>AV.val (.int k n))=((zs.take len).map (Value.int k)).map .val:=by
   generalize zs.take len=l
   induction l with
   |nil=>rfl
   |cons n r ih=>simp only[List.map_cons,QL,List.flatMap_cons] at ih ⊢;rw[ih];rfl
  rw[this]
  refine⟨by simp,fun j y u hy hu=>?_⟩
  rw[List.getElem?_map,hy] at hu
  obtain rfl:AV.val y=u:=by simpa using hu
  obtain⟨n,_,rfl⟩:=List.mem_map.1 (List.mem_of_getElem? hy)
  exact PRel.val _ rfl
theorem QlE {n:Int}(h:(Lit.int .u8 n).wf=true):((UInt8.ofNat n.toNat).toNat:Int)=n:=by
 have h:0≤n∧n≤255:=by simpa[Lit.wf,IntKind.min,IntKind.max,IntKind.signed,IntKind.bits] using h
 rw[UInt8.toNat_ofNat']
 omega
theorem arg_bytes {w:World}{a:Option Addr}{len cap:Nat}{zs:List Int}(h:QiC .u8 w a len cap zs)(hs:∀ x,a=some x→x.spot=none) :
  ARel1 w (gl w) [] (.slice a len cap) (.slc 1 (Q2 ((zs.take len).map fun n=>UInt8.ofNat n.toNat))):=by
 have h1:=Qjr h hs
 have h2:=(Qb8 h).2
 have e:Q2 ((zs.take len).map fun n=>UInt8.ofNat n.toNat)=(zs.take len).map fun n=>.val (.int .u8 n):=by
  rw[Q2,List.map_map]
  refine List.map_congr_left fun n hn=>?_
  show AV.val (.int .u8 ((UInt8.ofNat n.toNat).toNat:Int))=_
  rw[QlE (h2 n hn)]
 rw[e];exact h1
end Go.Proofs.YthbjpdijafccjaaGreat
namespace Go.Proofs.YthbjpdijafccjaaGreat
open Go.RowKit Go.Lib Tryz
theorem Qa (l:List Int)(hl:l.length≤1000000000)(hi:I32 l)(k:Int)(h0:0≤k)(hk:k≤l.length)(s:ByteArray)(hs:s.size≤1000000000):BCall prog 85 [.slc 1 (Q0 l),.val (.int .i64 k),.val (.string s)] [] (.val (.bool (Q3 l k.toNat s.data.toList))) []:=by
 refine BCall.hand (enters_of func85 (by kernel_rfl) rfl) fun w g vs M hL=>?_
 obtain⟨v1,vs1,rfl,h1,hL⟩:=Q1d hL
 obtain⟨v2,vs2,rfl,h2,hL⟩:=Q1d hL
 obtain⟨v3,vs3,rfl,h3,hL⟩:=Q1d hL
 obtain rfl:=Q3c hL
 obtain⟨A,c,rfl,hr⟩:=Q4q h1 M
 obtain rfl:=Q3f h2
 obtain rfl:=Q3f h3
 have:=QcO _ A _ c l k.toNat s w hr (by omega) hl hs hi
 rw[Int.toNat_of_nonneg h0] at this
 exact this.mono fun e w' ⟨h,hb⟩=>⟨_,h,hb,PRel.val _ rfl⟩
theorem Q1a (l:List Int)(hl:l.length≤1000000000)(k:Int)(h0:0≤k)(hk:k≤1000000000):BCall prog 116 [.slc 1 (Q0 l),.val (.int .i64 k)] [] (.val (.int .i64 (Qg l k.toNat))) []:=by
 refine BCall.hand (enters_of func116 (by kernel_rfl) rfl) fun w g vs M hL=>?_
 obtain⟨v1,vs1,rfl,h1,hL⟩:=Q1d hL
 obtain⟨v2,vs2,rfl,h2,hL⟩:=Q1d hL
 obtain rfl:=Q3c hL
 obtain⟨A,c,rfl,hr⟩:=Q4q h1 M
 obtain rfl:=Q3f h2
 have:=QgI _ A _ c l k.toNat w hr (by omega) hl
 rw[Int.toNat_of_nonneg h0] at this
 exact this.mono fun e w' ⟨h,hb⟩=>⟨_,h,hb ▸ Below.refl _ _,PRel.val _ rfl⟩
theorem Q1f (r:Int):BCall prog 117 [.val (.int .i32 r)] [] (.val (.bool (Qc r))) []:=by
 refine BCall.hand (enters_of func117 (by kernel_rfl) rfl) fun w g vs M hL=>?_
 obtain⟨v1,vs1,rfl,h1,hL⟩:=Q1d hL
 obtain rfl:=Q3c hL
 obtain rfl:=Q3f h1
 exact (Qer r w).mono fun e w' ⟨h,hb⟩=>⟨_,h,hb ▸ Below.refl _ _,PRel.val _ rfl⟩
theorem Q5U (r:Int):BCall prog 89 [.val (.int .i32 r)] [] (.val (.bool (Qn r))) []:=by
 refine BCall.hand (enters_of func89 (by kernel_rfl) rfl) fun w g vs M hL=>?_
 obtain⟨v1,vs1,rfl,h1,hL⟩:=Q1d hL
 obtain rfl:=Q3c hL
 obtain rfl:=Q3f h1
 exact (Q4y r w).mono fun e w' ⟨h,hb⟩=>⟨_,h,hb ▸ Below.refl _ _,PRel.val _ rfl⟩
def Qiz (a b c:Bool)(r:Int):Int:=if c=true then r-55 else if b=true then r-87 else if a=true then r-48 else -1
def Q1m (r base:Int):Int:=if base≤Qiz (isF r 48 57) (isF r 97 102) (isF r 65 70) r then -1 else Qiz (isF r 48 57) (isF r 97 102) (isF r 65 70) r
theorem QlW (r lo hi:Int):BCall prog 113 [.val (.int .i32 r),.val (.int .i32 lo),.val (.int .i32 hi)] [] (.val (.bool (isF r lo hi))) []:=by
 refine BCall.hand (enters_of func113 (by kernel_rfl) rfl) fun w g vs M hL=>?_
 obtain⟨v1,vs1,rfl,h1,hL⟩:=Q1d hL
 obtain⟨v2,vs2,rfl,h2,hL⟩:=Q1d hL
 obtain⟨v3,vs3,rfl,h3,hL⟩:=Q1d hL
 obtain rfl:=Q3c hL
 obtain rfl:=Q3f h1
 obtain rfl:=Q3f h2
 obtain rfl:=Q3f h3
 exact (Q2K r lo hi w).mono fun e w' ⟨h,hb⟩=>⟨_,h,hb ▸ Below.refl _ _,PRel.val _ rfl⟩
def QmO (a b c:Bool):Nat→List AV→List Ob→Option (AV×List Ob):=fun f args _=>match f,args with
 |113,[.val (.int .i32 _),.val (.int .i32 48),.val (.int .i32 57)]=>some (.val (.bool a),[])
 |113,[.val (.int .i32 _),.val (.int .i32 97),.val (.int .i32 102)]=>some (.val (.bool b),[])
 |113,[.val (.int .i32 _),.val (.int .i32 65),.val (.int .i32 70)]=>some (.val (.bool c),[])
 |_,_=>none
theorem Q4J (r base:Int)(hr:-1≤r∧r≤1114111):BCall prog 115 [.val (.int .i32 r),.val (.int .i64 base)] [] (.val (.int .i64 (Q1m r base))) []:=by
 have ca:=QlW r 48 57
 have cb:=QlW r 97 102
 have cc:=QlW r 65 70
 obtain⟨a,ha⟩:=exq (isF r 48 57)
 obtain⟨b,hb⟩:=exq (isF r 97 102)
 obtain⟨c,hc⟩:=exq (isF r 65 70)
 rw[←ha] at ca
 rw[←hb] at cb
 rw[←hc] at cc
 obtain⟨R,hR⟩:=exq (Q1m r base)
 rw[←hR]
 rw[Q1m,←ha,←hb,←hc] at hR
 have hw:IntKind.wrap .i64 r=r:=Q3Q .i64 r ⟨by show (-9223372036854775808:Int)≤r;omega,by show r≤(9223372036854775807:Int);omega⟩
 clear ha hb hc
 refine fnN (cs:=QmO a b c) func115 rfl (by kernel_rfl) ?_
 intro w0 g0
 generalize hp:std=p
 generalize hT:Q5 p tys (QmO a b c) _ _ _ _=T
 cbv at hT
 subst hT
 simp only[Tree.ok,Q1,S0]
 subst hp
 simp only[std,hw,decide_eq_true_eq,decide_eq_false_iff_not]
 repeat' first
  |(with_reducible apply And.intro)
  |(with_reducible intro hh)
 all_goals first
  |exact ca
  |exact cb
  |exact cc
  |(show (-9223372036854775808:Int)≤_;omega)
  |(show _≤(9223372036854775807:Int);omega)
  |(refine .pure rfl (.inl ?_);simp_all [Qiz])
def Q2G (q r:Int):Int×Int:=if q=0∧(r=34∨r=39) then (r,0) else if q≠0∧r=q then (0,0) else (q,q)
def qSt (l:List Int)(f:Nat):Nat→Int
 |0=>0
 |m+1=>(Q2G (qSt l f m) (l[f+m]?.getD 0)).1
def Qac (l:List Int)(f m:Nat):Int:=(Q2G (qSt l f m) (l[f+m]?.getD 0)).2
def qTo (l:List Int)(f k:Nat):List Int:=(List.range l.length).map fun i=>if f≤i∧i<k then Qac l f (i-f) else 0
def qL (l:List Int)(f:Nat):List Int:=qTo l f l.length
theorem QeU (l:List Int)(f k:Nat):(qTo l f k).length=l.length:=by simp[qTo]
theorem Qdt (l:List Int)(f k:Nat)(hf:f≤k)(h:k<l.length):qTo l f (k+1)=(qTo l f k).set k (Qac l f (k-f)):=by
 apply List.ext_getElem
 ·simp[qTo]
 ·intro i h1 h2
  rw[List.getElem_set]
  simp only[qTo,List.getElem_map,List.getElem_range]
  by_cases hi:k=i
  ·subst hi
   rw[if_pos ⟨hf,by omega⟩,if_pos rfl]
  ·rw[if_neg hi]
   by_cases h3:f≤i∧i<k
   ·rw[if_pos ⟨h3.1,by omega⟩,if_pos h3]
   ·rw[if_neg (by omega),if_neg h3]
theorem Qf8 (l:List Int)(f k:Nat)(h:k<l.length):(qTo l f k)[k]?=some 0:=by
 rw[qTo,List.getElem?_map,List.getElem?_range h]
 show some (if f≤k∧k<k then _ else (0:Int))=_
 rw[if_neg (by omega)]
theorem Qje (l:List Int)(f k:Nat)(hf:f≤k)(h:k<l.length)(hs:Qac l f (k-f)=0):qTo l f (k+1)=qTo l f k:=by
 rw[Qdt l f k hf h,hs]
 obtain⟨h2,e⟩:=List.getElem?_eq_some_iff.1 (Qf8 l f k h)
 have e:(qTo l f k)[k]'h2=0:=e
 rw[←e,List.set_getElem_self]
theorem Qhq (l:List Int)(f:Nat):rc (qTo l f f)=(madeCells #[Value.int .i32 0] l.length).toList:=by
 apply List.ext_getElem
 ·simp[rc,qTo,madeCells]
 ·intro i h1 h2
  simp only[rc,qTo,List.getElem_map,List.getElem_range,madeCells,Array.toList_map,Array.toList_range]
  rw[if_neg (by omega)]
  simp
  rw[Nat.mod_one];rfl
theorem QhO (l:List Int)(k:Nat)(r:Int):(rc l).set k (.int .i32 r)=rc (l.set k r):=by simp[rc,List.map_set]
theorem Qe2 (S:Nat→Prop)(A:Option Addr)(n c:Nat)(l:List Int)(f:Nat)(w:World)(hr:Rd w S 1 A n c (rc l))(hf:f≤l.length)(hl:l.length≤1000000000) :
  Calls prog 131 #[.slice A n c,.int .i64 f] w fun e w'=>∃ g,e=.returned (.slice (some ⟨g,0,none⟩) l.length l.length)∧Rd w' (fun b=>w.heap.size≤b) 1 (some ⟨g,0,none⟩) l.length l.length (rc (qL l f))∧Below w.heap.size w w':=by
 obtain rfl:=hr.rlen
 have hle:=hr.le
 have hmx:c≤9223372036854775807:=hr.max
 obtain⟨i0,hi,hz0,hz1,hz2⟩:=info_parts Qlo
 have HR:=Lib.hid hr
 clear hr
 go_enter func131,ntmps131
 go_wp2_with (at_make;refine wpList_make_full _ rfl (.tmp 9) (.tmp 9) 24 rfl w.heap.size 21 i0 (.int .i32 0) 1 underlying24 hi hz0 hz1 .i64 .i64 _ _ l.length rfl rfl rfl rfl (by rw[hz2];omega) (by unfold maxLen;omega) (Nat.le_refl _) ?_)
 intro w1 hown hg1
 rw[←Qhq l f] at hown
 have hb1:Below w.heap.size w w1:=(Below.refl _ w).grown hg1 (Nat.le_refl _) (fun k hk=>by cases hk)
 have hfz:∀ j,j<l.length→w1.frozen? ⟨w.heap.size,0+j,none⟩=false:=fun j _=>by
  rcases hown.2 with ⟨hv,_⟩|⟨g,cap,cur,hv,_,hg,_⟩
  ·cases hv
  ·injection hv with hv _ _
   injection hv with hv
   injection hv with hv
   subst hv
   exact Lib.frozen_of_heap hg _
 obtain⟨g,hg⟩:=exq w.heap.size
 have HO:Hid (Rd w1 (fun b=>w.heap.size≤b) 1 (some ⟨g,0,none⟩) l.length l.length (rc (qTo l f f))):=by rw[hg];exact Rd.of_own hown
 rw[←hg] at hfz ⊢
 have hgw:w.heap.size≤g:=by omega
 have HF:=Lib.hid hfz
 have HB:=Lib.hid hb1
 clear hfz hb1 hown hg1 hz0 hz1 hz2 hi hg
 go_wp2
 go_loopw [6,7] (fun q i wr=>∃ (k:Nat),f≤k∧k≤l.length∧q=.int .i32 (qSt l f (k-f))∧i=.int .i64 k∧Hid (Rd wr (fun b=>w.heap.size≤b) 1 (some ⟨g,0,none⟩) l.length l.length (rc (qTo l f k)))∧Hid (∀ j,j<l.length→wr.frozen? ⟨g,0+j,none⟩=false)∧Hid (Below w.heap.size w wr))
  (fun _ i _=>l.length-(Go.RowKit.intOf i).toNat)
 case atStart=>exact⟨f,Nat.le_refl _,hf,by rw[Nat.sub_self];rfl,rfl,HO.out,HF.out,HB.out⟩
 case round =>
  obtain⟨k,hk0,hk,rfl,rfl,HK,HG,HW⟩:=hrel
  by_cases hlt:k<l.length
  ·obtain⟨b,u,rfl,hc1⟩:=(HR.out.below HW.out).rune hlt
   obtain⟨b2,o2,hA,hS,hcell⟩:=HK.out.at_ (by omega)
   injection hA with hA
   injection hA with e1 e2
   subst e1 e2
   have hc2:wr.cell? ⟨g,0+k,none⟩=some (.int .i32 0):=hcell k _ (by rw[rc,List.getElem?_map,Qf8 l f k hlt];rfl)
   have hfk:=HG.out k hlt
   rw[Nat.zero_add] at hc2 hfk
   have hke:f+(k-f)=k:=by omega
   have HQ:Hid (qSt l f (k+1-f)=(Q2G (qSt l f (k-f)) l[k]).1):=by
    rw[Hid,show k+1-f=(k-f)+1 by omega,qSt,hke,List.getElem?_eq_getElem hlt];rfl
   have HO2:Hid (Qac l f (k-f)=(Q2G (qSt l f (k-f)) l[k]).2):=by
    rw[Hid,Qac,hke,List.getElem?_eq_getElem hlt];rfl
   have HST:=Lib.hid (Qdt l f k hk0 hlt)
   have HSM:=Lib.hid (Qje l f k hk0 hlt)
   clear hcell hke HO HF HB
   generalize qSt l f (k-f)=q at HQ HO2 ⊢
   generalize l[k]=r at hc1 HQ HO2
   by_cases hq0:q=0
   ·subst hq0
    by_cases h34:r=34
    ·have HQ2:Hid (qSt l f (k+1-f)=r):=by rw[Hid,HQ.out,Q2G,if_pos ⟨rfl,.inl h34⟩]
     have HS2:=Lib.hid (HSM.out (by rw[HO2.out,Q2G,if_pos ⟨rfl,.inl h34⟩]))
     clear HQ HO2 HST HSM
     subst h34
     go_wp2
     go_roundw
     case rel=>exact⟨k+1,by omega,by omega,by rw[HQ2.out],by go_num,by rw[HS2.out];exact HK.out,HG.out,HW.out⟩
     case measure=>simp[Go.RowKit.intOf];omega
    ·by_cases h39:r=39
     ·have HQ2:Hid (qSt l f (k+1-f)=r):=by rw[Hid,HQ.out,Q2G,if_pos ⟨rfl,.inr h39⟩]
      have HS2:=Lib.hid (HSM.out (by rw[HO2.out,Q2G,if_pos ⟨rfl,.inr h39⟩]))
      clear HQ HO2 HST HSM h34
      subst h39
      go_wp2
      go_roundw
      case rel=>exact⟨k+1,by omega,by omega,by rw[HQ2.out],by go_num,by rw[HS2.out];exact HK.out,HG.out,HW.out⟩
      case measure=>simp[Go.RowKit.intOf];omega
     ·have hn:¬ ((0:Int)=0∧(r=34∨r=39)):=fun h=>h.2.elim h34 h39
      have HQ2:Hid (qSt l f (k+1-f)=0):=by rw[Hid,HQ.out,Q2G,if_neg hn,if_neg (fun h=>h.1 rfl)]
      have HS2:Hid (qTo l f (k+1)=(qTo l f k).set k 0):=by rw[Hid,HST.out,HO2.out,Q2G,if_neg hn,if_neg (fun h=>h.1 rfl)]
      have h34b:(r == 34)=false:=by simpa using h34
      have h39b:(r == 39)=false:=by simpa using h39
      clear HQ HO2 HST HSM hn h34 h39
      go_wp2
      go_roundw
      case rel =>
       refine⟨k+1,by omega,by omega,by rw[HQ2.out],by go_num,?_,fun j hj=>?_,HW.out.setCell hgw _⟩
       ·rw[HS2.out,←QhO]
        have h9:=HK.out.setB hlt (.int .i32 0)
        rw[Nat.zero_add] at h9
        exact h9
       ·rw[World.frozen?_setCell];exact HG.out j hj
      case measure=>simp[Go.RowKit.intOf];omega
   ·have hq0b:(q == 0)=false:=by simpa using hq0
    by_cases hrq:r=q
    ·have hn:¬ (q=0∧(r=34∨r=39)):=fun h=>hq0 h.1
     have HQ2:Hid (qSt l f (k+1-f)=0):=by rw[Hid,HQ.out,Q2G,if_neg hn,if_pos ⟨hq0,hrq⟩]
     have HS2:=Lib.hid (HSM.out (by rw[HO2.out,Q2G,if_neg hn,if_pos ⟨hq0,hrq⟩]))
     clear HQ HO2 HST HSM hn
     subst hrq
     go_wp2
     go_roundw
     case rel=>exact⟨k+1,by omega,by omega,by rw[HQ2.out],by go_num,by rw[HS2.out];exact HK.out,HG.out,HW.out⟩
     case measure=>simp[Go.RowKit.intOf];omega
    ·have hn:¬ (q=0∧(r=34∨r=39)):=fun h=>hq0 h.1
     have HQ2:Hid (qSt l f (k+1-f)=q):=by rw[Hid,HQ.out,Q2G,if_neg hn,if_neg (fun h=>hrq h.2)]
     have HS2:Hid (qTo l f (k+1)=(qTo l f k).set k q):=by rw[Hid,HST.out,HO2.out,Q2G,if_neg hn,if_neg (fun h=>hrq h.2)]
     have hrqb:(r == q)=false:=by simpa using hrq
     clear HQ HO2 HST HSM hn hrq
     go_wp2
     go_roundw
     case rel =>
      refine⟨k+1,by omega,by omega,by rw[HQ2.out],by go_num,?_,fun j hj=>?_,HW.out.setCell hgw _⟩
      ·rw[HS2.out,←QhO]
       have h9:=HK.out.setB hlt (.int .i32 q)
       rw[Nat.zero_add] at h9
       exact h9
      ·rw[World.frozen?_setCell];exact HG.out j hj
     case measure=>simp[Go.RowKit.intOf];omega
  ·have e:k=l.length:=by omega
   subst e
   go_wp2
   go_ret
   exact⟨g,rfl,HK.out,HW.out⟩
end Go.Proofs.YthbjpdijafccjaaGreat
