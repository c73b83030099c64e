/- Lemmas, conditions told -/
import Derived.Test.YtibemhahkicbpaaGreatL17
set_option maxRecDepth 99999
set_option maxHeartbeats 0
set_option linter.unusedSimpArgs false
set_option linter.unusedVariables false
namespace Go.Proofs.YtibemhahkicbpaaGreat
open List(getLast?_eq_none_iff mem_of_getLast? mem_cons_self mem_cons_of_mem length_append flatMap_cons foldl_append append_assoc nil_append length_singleton mem_append cons_append foldl_cons foldl_nil dropLast_subset mem_append_left map_append getElem?_map getD_eq_getElem?_getD getElem?_eq_getElem length_map mem_singleton getElem_mem)
open Option(none_or getD_some)
open Int(toNat_natCast le_refl)
open Go.RowKit Go.Lib
structure El where
 path:List Int
 fr:Int
 to:Int
 inn:Int
 out:Int
 emp:Bool
 tag:Option (List UInt8)
 deriving Inhabited
structure Al where
 o:List El
 op:List Int
 ct:List Int
 at_:Int
 last:Int
 pa:List Int
def QqY(l:List Int):List Int:=l.dropLast++[(l.getLast?.getD 0)+1]
def QqP(s:Al)(e:Ev):Al :=
 if e.do_=1 then { s with pa:=s.pa++[s.ct.getLast?.getD 0],ct:=QqY s.ct++[0],op:=s.op++[(s.o.length:Int)],o:=s.o++[⟨s.pa++[s.ct.getLast?.getD 0],s.at_,0,-1,0,false,none⟩] }
 else if e.do_=3 then { s with o:=s.o.modify (s.op.getLast?.getD 0).toNat (fun x=>{ x with to:=s.at_,out:=s.last }),op:=s.op.dropLast,ct:=s.ct.dropLast,pa:=s.pa.dropLast }
 else if e.kind=9 then { s with o:=s.o++[⟨s.pa++[s.ct.getLast?.getD 0],s.at_,s.at_+e.b.length,0,0,true,some e.b⟩],ct:=QqY s.ct,last:=s.at_,at_:=s.at_+e.b.length }
 else { s with o:=if s.op≠[]/\(s.o[(s.op.getLast?.getD 0).toNat]?.getD default).inn<0 then s.o.modify (s.op.getLast?.getD 0).toNat (fun x=>{ x with inn:=s.at_+e.b.length,tag:=some e.b })else s.o,last:=s.at_,at_:=s.at_+e.b.length }
def alF(ev:List Ev):Al:=ev.foldl QqP ⟨[],[],[0],0,0,[]⟩
def Qrg(g:Int->List Int->Int->List El)(l:List Node):List Int->List Int->Int->Int->List El
 | [],_,_,_=>[]
 |x::r,p,i,f=>g x (p++[i]) f++Qrg g l r p (if QqN l x=true then i+1 else i) (f+(pr l x).length)
def elF(l:List Node):Nat->Int->List Int->Int->List El
 |0,_,_,_=>[]
 |m+1,n,p,f =>
  if Q1f l n=9 then [⟨p,f,f+(pr l n).length,0,0,true,some (pr l n)⟩]
  else if Q1f l n=21 then⟨p,f,f+(pr l n).length,f+(pr l ((Qn l n).kids.head?.getD 0)).length,f+(pr l n).length-(pr l ((Qn l n).kids.getLast?.getD 0)).length,false,some (pr l ((Qn l n).kids.head?.getD 0))⟩::Qrg (elF l m) l (Qn l n).kids p 0 f
  else []
structure Shape (l:List Node):Prop where
 b:∀n:Int,0<=n->n<l.length->Q1f l n=21->(Qn l n).b=[]
 first:∀n:Int,0<=n->n<l.length->Q1f l n=21->∃x r,(Qn l n).kids=x::r/\Q1f l x≠21/\Q1f l x≠9/\r≠[]
 last:∀n:Int,0<=n->n<l.length->Q1f l n=21->∀x,(Qn l n).kids.getLast?=some x->Q1f l x≠21
def Qs1(s:Al):Prop:=¬(s.op≠[]/\(s.o[(s.op.getLast?.getD 0).toNat]?.getD default).inn<0)
def QrC(l:List Node)(ks:List Int):Int:=((ks.map fun k=>(pr l k).length).sum:Nat)
theorem Qrb(l:List Node)(x:Int)(r:List Int):QrC l (x::r)=(pr l x).length+QrC l r:=by simp[QrC]
theorem QrF(c:List Int)(i:Int):QqY (c++[i])=c++[i+1]:=by simp[QqY]
theorem QtP(s:Al)(k:Int)(b:List UInt8)(hk:k≠9)(hq:Qs1 s):QqP s ⟨2,k,b⟩={ s with last:=s.at_,at_:=s.at_+b.length }:=by
 unfold QqP;rw[if_neg (by decide:¬(2:Int)=1),if_neg (by decide:¬(2:Int)=3),if_neg hk,if_neg hq]
def upI(l:List Node)(n i:Int):Int:=if QqN l n=true then i+1 else i
def QtL(l:List Node)(m:Nat)(n:Int):Prop:=∀(o:List El)(op c:List Int)(i a la:Int)(p:List Int),Qs1 ⟨o,op,c++[i],a,la,p⟩->(∀x∈op,0<=x/\x<o.length)->0<=a ->
 ∃la',(spF l m n false).foldl QqP ⟨o,op,c++[i],a,la,p⟩=⟨o++elF l m n (p++[i]) a,op,c++[upI l n i],a+(pr l n).length,la',p⟩/\(Q1f l n≠21->la'=a)
theorem QsA(f:El->El):∀(o:List El)(x:El)(r:List El),(o++x::r).modify o.length f=o++f x::r
 | [],x,r=>rfl
 |y::o,x,r=>by
  have:=QsA f o x r
  simpa using this
theorem QrO(c:List Int)(i:Int):(c++[i]).getLast?.getD 0=i:=by simp
theorem Qsq(c:List Int)(i:Int):(c++[i]).dropLast=c:=by simp
theorem QtF(o:List El)(x:El)(r:List El):(o++x::r)[o.length]?.getD default=x:=by simp
theorem Qtb{o o':List El}{op c c' p p':List Int}{a a' la la':Int}(h:Qs1 ⟨o,op,c,a,la,p⟩)(vN:∀x∈op,0<=x/\x<o.length):Qs1 ⟨o++o',op,c',a',la',p'⟩:=by
 rintro⟨h1,h2⟩;refine h ⟨h1,?_⟩
 have hm:op.getLast?.getD 0∈op:=by
  cases hl:op.getLast? with
  |none=>exact absurd (getLast?_eq_none_iff.1 hl) h1
  |some x=>exact mem_of_getLast? hl
 have:=vN _ hm
 have h2:((o++o')[(op.getLast?.getD 0).toNat]?.getD default).inn<0:=h2;rw[List.getElem?_append_left (by omega)]at h2
 exact h2
theorem Qsm{l:List Node}{m:Nat}:∀(ks:List Int),(∀k∈ks,QtL l m k)->∀(o:List El)(op c:List Int)(i a la:Int)(p:List Int),Qs1 ⟨o,op,c++[i],a,la,p⟩->(∀x∈op,0<=x/\x<o.length)->0<=a ->
  ∃la' i',(ks.flatMap fun k=>spF l m k false).foldl QqP ⟨o,op,c++[i],a,la,p⟩=⟨o++Qrg (elF l m) l ks p i a,op,c++[i'],a+QrC l ks,la',p⟩/\(∀x,ks.getLast?=some x->Q1f l x≠21->la'=a+QrC l ks-(pr l x).length)
 | [],_,o,op,c,i,a,la,p,_,_,_=>⟨la,i,by simp[Qrg,QrC],fun x h=>by cases h⟩
 |k::r,hk,o,op,c,i,a,la,p,hq,vN,ha=>by
  obtain⟨la1,h1,h2⟩:=hk k mem_cons_self o op c i a la p hq vN ha;obtain⟨la2,i2,h3,h4⟩:=Qsm r (fun x hx=>hk x (mem_cons_of_mem _ hx)) (o++elF l m k (p++[i]) a) op c (upI l k i) (a+(pr l k).length) la1 p (Qtb hq vN) (fun x hx=>by have:=vN x hx;rw[length_append];omega) (by omega)
  refine⟨la2,i2,?_,fun x hx yj=>?_⟩
  ·rw[flatMap_cons,foldl_append,h1,h3,Qrb,Qrg,append_assoc,Int.add_assoc];rfl
  ·cases r with
   |nil =>
    obtain rfl:k=x:=by simpa using hx
    have e:la2=la1:=by
     have h3:(⟨_,_,_,_,la1,_⟩:Al)=⟨_,_,_,_,la2,_⟩:=h3;injection h3 with _ _ _ _ h5 _
     exact h5.symm
    rw[e,h2 yj];simp[QrC]
   |cons y r =>
    rw[List.getLast?_cons_cons]at hx;rw[h4 x hx yj,Qrb l k];omega
theorem QsD{l:List Node}(hw:Wf l)(hs:Shape l){n:Int}(h0:0<=n)(h1:n<l.length)(hk:Q1f l n=21):((pr l n).length:Int)=QrC l (Qn l n).kids:=by
 rw[Qh3 hw h0 h1,hs.b n h0 h1 hk,nil_append,List.length_flatMap,QrC]
theorem QsY{l:List Node}(hw:Wf l)(hs:Shape l):∀(m:Nat)(n:Int),0<=n->n<l.length->n.toNat<m->QtL l m n
 |0,n,h0,h1,h2=>by omega
 |m+1,n,h0,h1,h2=>by
  intro o op c i a la p hq vN ha;by_cases hk:Q1f l n=21
  ·obtain⟨x,r,e1,e2,e3,e4⟩:=hs.first n h0 h1 hk
   have jd:∀k∈(Qn l n).kids,0<=k/\k<l.length/\k.toNat<m:=fun k h=>by have:=hw n h0 h1 k h;omega
   have hx:=jd x (by rw[e1];exact mem_cons_self)
   have hm:m≠0:=by omega
   have es:spF l (m+1) n false=⟨1,0,[]⟩::((⟨2,Q1f l x,pr l x⟩:Ev)::r.flatMap (fun k=>spF l m k false))++[⟨3,0,[]⟩]:=by
    have ex:spF l m x false=[⟨2,Q1f l x,pr l x⟩]:=by
     obtain⟨m',rfl⟩:∃m',m=m'+1:=⟨m-1,by omega⟩
     rw[spF,if_pos ⟨e2,rfl⟩];rfl
    rw[spF,if_neg (fun h=>h.1 hk),if_neg (by decide),if_neg (by decide),e1,flatMap_cons,ex];rfl
   have jc:QqN l n=true:=by rw[QqN,hk];rfl
   have gC:Qs1 ⟨o++[⟨p++[i],a,0,a+(pr l x).length,0,false,some (pr l x)⟩],op++[(o.length:Int)],c++[i+1]++[0],a+(pr l x).length,a,p++[i]⟩:=by
    rintro⟨_,h⟩;have h:((o++[(⟨p++[i],a,0,a+(pr l x).length,0,false,some (pr l x)⟩:El)])[((op++[(o.length:Int)]).getLast?.getD 0).toNat]?.getD default).inn<0:=h;rw[QrO,toNat_natCast,QtF]at h;have h:a+(pr l x).length<0:=h;omega
   obtain⟨la2,i2,h3,h4⟩:=Qsm (l:=l) (m:=m) r (fun k h=>QsY hw hs m k (jd k (by rw[e1];exact mem_cons_of_mem _ h)).1 (jd k (by rw[e1];exact mem_cons_of_mem _ h)).2.1 (jd k (by rw[e1];exact mem_cons_of_mem _ h)).2.2) _ _ _ _ _ _ _ gC (fun y hy=>by
    rw[length_append,length_singleton];rcases mem_append.1 hy with hy|hy
    ·have:=vN y hy;omega
    ·obtain rfl:y=o.length:=by simpa using hy
     omega) (by omega)
   refine⟨la2,?_,fun h=>absurd hk h⟩
   have jj:la2=a+(pr l n).length-(pr l ((Qn l n).kids.getLast?.getD 0)).length:=by
    cases hr:r.getLast? with
    |none=>exact absurd (getLast?_eq_none_iff.1 hr) e4
    |some y =>
     have hy:(Qn l n).kids.getLast?=some y:=by
      rw[e1,List.getLast?_cons,hr];rfl
     rw[h4 y hr (hs.last n h0 h1 hk y hy),QsD hw hs h0 h1 hk,hy,e1,Qrb];simp;omega
   have yT:a+(pr l x).length+QrC l r=a+(pr l n).length:=by rw[QsD hw hs h0 h1 hk,e1,Qrb];omega
   have s1:QqP ⟨o,op,c++[i],a,la,p⟩ ⟨1,0,[]⟩=⟨o++[⟨p++[i],a,0,-1,0,false,none⟩],op++[(o.length:Int)],c++[i+1]++[0],a,la,p++[i]⟩:=by
    unfold QqP;rw[if_pos rfl,QrF];simp
   have s2:QqP ⟨o++[⟨p++[i],a,0,-1,0,false,none⟩],op++[(o.length:Int)],c++[i+1]++[0],a,la,p++[i]⟩ ⟨2,Q1f l x,pr l x⟩=⟨o++[⟨p++[i],a,0,a+(pr l x).length,0,false,some (pr l x)⟩],op++[(o.length:Int)],c++[i+1]++[0],a+(pr l x).length,a,p++[i]⟩:=by
    unfold QqP;rw[if_neg (by decide:¬(2:Int)=1),if_neg (by decide:¬(2:Int)=3),if_neg e3]
    simp only[QrO,toNat_natCast,QtF,QsA];rw[if_pos ⟨by simp,by decide⟩]
   rw[es,cons_append,foldl_cons,s1,cons_append,foldl_cons,s2,foldl_append,h3,yT];simp only[foldl_cons,foldl_nil];unfold QqP;rw[if_neg (by decide:¬(3:Int)=1),if_pos rfl]
   have e5:elF l (m+1) n (p++[i]) a=⟨p++[i],a,a+(pr l n).length,a+(pr l x).length,la2,false,some (pr l x)⟩::Qrg (elF l m) l r (p++[i]) 0 (a+(pr l x).length):=by
    have ex:∀q f,elF l m x q f=[]:=fun q f=>by
     obtain⟨m',rfl⟩:∃m',m=m'+1:=⟨m-1,by omega⟩
     rw[elF,if_neg e3,if_neg e2]
    have jH:QqN l x=false:=by simp[QqN,e2,e3]
    rw[elF,if_neg (by rw[hk];decide),if_pos hk,jj]
    rw[e1,Qrg,ex,jH];rfl
   rw[e5,upI,jc];simp only[QrO,Qsq,toNat_natCast,if_true,append_assoc,List.singleton_append,QsA]
   have e6:(c++[i+1,i2]).dropLast=c++[i+1]:=by
    rw[show c++[i+1,i2]=(c++[i+1])++[i2] by simp]
    exact Qsq _ _
   rw[e6]
  ·have es:spF l (m+1) n false=[⟨2,Q1f l n,pr l n⟩]:=by rw[spF,if_pos ⟨hk,rfl⟩];rfl
   rw[es];by_cases h9:Q1f l n=9
   ·refine⟨a,?_,fun _=>rfl⟩
    have jc:QqN l n=true:=by rw[QqN,h9];rfl
    simp only[foldl_cons,foldl_nil];unfold QqP;rw[if_neg (by decide:¬(2:Int)=1),if_neg (by decide:¬(2:Int)=3),if_pos h9,elF,if_pos h9,upI,if_pos jc,QrF]
    simp
   ·refine⟨a,?_,fun _=>rfl⟩
    have jc:QqN l n=false:=by simp[QqN,hk,h9]
    rw[foldl_cons,foldl_nil,QtP _ _ _ h9 hq,elF,if_neg h9,if_neg hk,upI,jc];simp
def Qso(l:List Node)(n:Int):List El:=Qrg (elF l n.toNat) l (Qn l n).kids [] 0 0
theorem Qu1{l:List Node}(hw:Wf l)(hs:Shape l){n:Int}(h0:0<=n)(h1:n<l.length):(alF (spV l n true)).o=Qso l n:=by
 have jd:∀k∈(Qn l n).kids,QtL l n.toNat k:=fun k h=>by
  have:=hw n h0 h1 k h
  exact QsY hw hs _ k this.1 (by omega) (by omega)
 obtain⟨la,i',h,_⟩:=Qsm (Qn l n).kids jd [] [] [] 0 0 0 [] (fun h=>h.1 rfl) (fun x hx=>by cases hx) (le_refl 0)
 have e:spV l n true=(Qn l n).kids.flatMap fun k=>spF l n.toNat k false:=by
  rw[spV,spF,if_neg (fun h=>absurd h.2 (by decide)),if_pos rfl,if_pos rfl];simp
 have h:((Qn l n).kids.flatMap fun k=>spF l n.toNat k false).foldl QqP ⟨[],[],[0],0,0,[]⟩=_:=h
 rw[alF,e,h];rfl
def QqZ:List Ev->Nat->Prop
 | [],_=>True
 |e::r,d=>if e.do_=1 then QqZ r (d+1)else if e.do_=3 then 0<d/\QqZ r (d-1)else QqZ r d
def Qr3(ev:List Ev):Int:=((ev.map fun e=>e.b.length).sum:Nat)
theorem Qrk(e:Ev)(r:List Ev):Qr3 (e::r)=e.b.length+Qr3 r:=by simp[Qr3]
theorem Qsu(a b:List Ev):Qr3 (a++b)=Qr3 a+Qr3 b:=by simp[Qr3]
theorem Qrv(a:List Ev):0<=Qr3 a:=by unfold Qr3;omega
structure AlOk (d:Nat) (B K:Int) (s:Al):Prop where
 op:s.op.length=d
 ct:s.ct.length=d+1
 pa:s.pa.length=d
 opr:∀x∈s.op,0<=x/\x<s.o.length
 ctr:∀x∈s.ct,0<=x/\x<=K
 par:∀x∈s.pa,0<=x/\x<=K
 a0:0<=s.at_/\s.at_<=B
 la:0<=s.last/\s.last<=B
 ol:(s.o.length:Int)<=K
 dl:(d:Int)<=K
theorem QrE{l:List Int}{K x:Int}(h:∀x∈l,0<=x/\x<=K)(hK:0<=K)(hx:x∈QqY l):0<=x/\x<=K+1:=by
 rcases mem_append.1 hx with hx|hx
 ·have:=h x (dropLast_subset _ hx);omega
 ·obtain rfl:x=(l.getLast?.getD 0)+1:=by simpa using hx
  cases hl:l.getLast? with
  |none=>simp;omega
  |some y =>
   have:=h y (mem_of_getLast? hl)
   simp;omega
theorem Qrd{l:List Int}(h:l.length≠0):(QqY l).length=l.length:=by
 rw[QqY,length_append,List.length_dropLast,length_singleton];omega
theorem AlOk.last_ct{d:Nat}{B K:Int}{s:Al}(h:AlOk d B K s):0<=s.ct.getLast?.getD 0/\s.ct.getLast?.getD 0<=K:=by
 cases hl:s.ct.getLast? with
 |none =>
  have:=getLast?_eq_none_iff.1 hl
  have h2:=h.ct;rw[this]at h2;simp at h2
 |some y=>exact h.ctr y (mem_of_getLast? hl)
theorem AlOk.step{d:Nat}{B K:Int}{s:Al}{e:Ev}{r:List Ev}(h:AlOk d B K s)(hK:0<=K)(hn:QqZ (e::r) d)(hb:s.at_+e.b.length<=B):∃d',AlOk d' B (K+1) (QqP s e)/\QqZ r d':=by
 have hc:=h.last_ct;have hct:=h.ct;unfold QqP;rw[QqZ]at hn;split at hn
 ·rename_i h1
  refine⟨d+1,?_,hn⟩;rw[if_pos h1];refine⟨by simp[h.op],by simp[Qrd (l:=s.ct) (by omega),h.ct],by simp[h.pa],fun x hx=>?_,fun x hx=>?_,fun x hx=>?_,h.a0,h.la,?_,by have:=h.dl;omega⟩
  ·simp only[length_append,length_singleton]
   rcases mem_append.1 hx with hx|hx
   ·have:=h.opr x hx;omega
   ·obtain rfl:x=s.o.length:=by simpa using hx
    omega
  ·rcases mem_append.1 hx with hx|hx
   ·exact QrE h.ctr hK hx
   ·obtain rfl:x=0:=by simpa using hx
    omega
  ·rcases mem_append.1 hx with hx|hx
   ·have:=h.par x hx;omega
   ·obtain rfl:x=s.ct.getLast?.getD 0:=by simpa using hx
    omega
  ·have:=h.ol
   simp only[length_append,length_singleton];omega
 ·rename_i h1
  rw[if_neg h1];split at hn
  ·rename_i h3
   refine⟨d-1,?_,hn.2⟩;rw[if_pos h3];have h4:=hn.1;refine⟨by simp[h.op],by simp[h.ct];omega,by simp[h.pa],fun x hx=>?_,fun x hx=>?_,fun x hx=>?_,h.a0,h.la,?_,by have:=h.dl;omega⟩
   ·have:=h.opr x (dropLast_subset _ hx)
    simpa using this
   ·have:=h.ctr x (dropLast_subset _ hx);omega
   ·have:=h.par x (dropLast_subset _ hx);omega
   ·have:=h.ol;simp;omega
  ·rename_i h3
   rw[if_neg h3];have a1:=h.a0;have a2:=h.ol;split
   ·refine⟨d,⟨h.op,by simp[Qrd (l:=s.ct) (by omega),h.ct],h.pa,fun x hx=>?_,fun x hx=>QrE h.ctr hK hx,fun x hx=>by have:=h.par x hx;omega,?_,a1,?_,by have:=h.dl;omega⟩,hn⟩
    ·have:=h.opr x hx
     simp only[length_append,length_singleton];omega
    ·show 0<=s.at_+e.b.length/\s.at_+e.b.length<=B
     omega
    ·simp only[length_append,length_singleton];omega
   ·refine⟨d,⟨h.op,h.ct,h.pa,fun x hx=>?_,fun x hx=>by have:=h.ctr x hx;omega,fun x hx=>by have:=h.par x hx;omega,?_,a1,?_,by have:=h.dl;omega⟩,hn⟩
    ·have:=h.opr x hx
     show 0<=x/\x<((if _ then _ else _:List El).length:Int);split<;>simpa using this
    ·show 0<=s.at_+e.b.length/\s.at_+e.b.length<=B
     omega
    ·show((if _ then _ else _:List El).length:Int)<=K+1
     split<;>(try simp)<;>omega
theorem QrA{l:List Node}{m:Nat}:∀(ks:List Int),(∀k∈ks,∀r d,QqZ r d->QqZ (spF l m k false++r) d)->∀r d,QqZ r d->QqZ ((ks.flatMap fun k=>spF l m k false)++r) d
 | [],_,_,_,h=>h
 |k::ks,hk,r,d,h=>by
  rw[flatMap_cons,append_assoc];exact hk k mem_cons_self _ _ (QrA ks (fun x hx=>hk x (mem_cons_of_mem _ hx)) r d h)
theorem Qsd{l:List Node}:∀(m:Nat)(n:Int)(r:List Ev)(d:Nat),QqZ r d->QqZ (spF l m n false++r) d
 |0,_,_,_,h=>h
 |m+1,n,r,d,h=>by
  rw[spF];split
  ·exact h
  ·rw[if_neg (by decide),if_neg (by decide),append_assoc,append_assoc]
   show QqZ (⟨1,0,[]⟩::_) d;rw[QqZ,if_pos rfl];refine QrA _ (fun k _=>Qsd m k) _ _ ?_
   show QqZ (⟨3,0,[]⟩::r) (d+1);rw[QqZ,if_neg (by decide:¬(3:Int)=1),if_pos rfl]
   exact⟨by omega,h⟩
theorem Qtc{l:List Node}(n:Int):QqZ (spV l n true) 0:=by
 have e:spV l n true=(Qn l n).kids.flatMap (fun k=>spF l n.toNat k false)++[]:=by
  rw[spV,spF,if_neg (fun h=>absurd h.2 (by decide)),if_pos rfl,if_pos rfl];simp
 rw[e];exact QrA _ (fun k _=>Qsd _ k) [] 0 trivial
theorem QlU{l:List Node}(hw:Wf l):∀(m:Nat)(n:Int)(top:Bool),0<=n->n<l.length->n.toNat<m->(spV l n top).length<=2 * co l n
 |0,_,_,_,_,h=>by omega
 |m+1,n,top,h0,h1,h2=>by
  rw[Q8I hw h0 h1,Qbd hw h0 h1];split
  ·simp;omega
  ·have:((Qn l n).kids.flatMap (fun k=>spV l k false)).length<=2 * ((Qn l n).kids.map (co l)).sum:=by
    have hk:∀k∈(Qn l n).kids,(spV l k false).length<=2 * co l k:=fun k hk=>by
     have:=hw n h0 h1 k hk
     exact QlU hw m k false this.1 (by omega) (by omega)
    generalize (Qn l n).kids=ks at hk ⊢;induction ks with
    |nil=>simp
    |cons k r ih =>
     have h3:=hk k (mem_cons_self ..);have h4:=ih fun x hx=>hk x (mem_cons_of_mem _ hx)
     simp only[flatMap_cons,length_append,List.map_cons,List.sum_cons];omega
   simp only[length_append];have h5:(if top=true then([]:List Ev)else [⟨1,0,[]⟩]).length<=1:=by split<;>simp
   have h6:(if top=true then([]:List Ev)else [⟨3,0,[]⟩]).length<=1:=by split<;>simp
   omega
structure Evr where
 do_:Int
 kind:Int
 b:Option (List UInt8)
 deriving Inhabited
def Evr.ev(x:Evr):Ev:=⟨x.do_,x.kind,x.b.getD []⟩
def Evr.ba(x:Evr):AV:=match x.b with|some b=>.slc 1 (Q2 b)|none=>Qno
def Evr.av(x:Evr):AV:=.agg [.val (.int .i64 x.do_),.val (.int .i64 x.kind),x.ba]
def Qv(l:List Evr):List AV:=l.map Evr.av
theorem Q8i(a b:List Evr):Qv (a++b)=Qv a++Qv b:=by simp[Qv]
theorem Q6A(a:List Evr):(Qv a).length=a.length:=by simp[Qv]
structure RSt where
 op:List (List Int)
 ev:List Evr
 wr:List Dg
 deriving Inhabited
def Q1R(t:Txt)(c f u:Int)(s:RSt):RSt:=⟨s.op,s.ev,s.wr++[⟨Q1s t f,Q1s t u,c⟩]⟩
def Q1K(t:Txt)(b:List UInt8)(kind f u:Int)(s:RSt):RSt:=⟨s.op,s.ev++[⟨2,kind,some (QU t b f u)⟩],s.wr⟩
def Q2h(t:Txt)(a:Int)(s:RSt):RSt:=⟨s.op.take (s.op.length-1),s.ev++[⟨2,22,none⟩,⟨3,0,none⟩],s.wr++[⟨Q1s t a,Q1s t a,4⟩]⟩
def Q2G(op:List (List Int))(nm:List Int):Nat->Int
 |0=>-1
 |k+1=>if op[k]?.getD []=nm then k else Q2G op nm k
def Q1g(t:Txt)(f:Int)(k:Nat):Nat->RSt->RSt
 |0,s=>s
 |n+1,s=>if k<s.op.length then Q1g t f k n (Q2h t f s)else s
def Q4x(t:Txt)(b:List UInt8)(kind f u:Int)(s:RSt):RSt :=
 if 64<=s.op.length then Q1K t b kind f u (Q1R t 5 f u s)
 else Q1K t b kind f u ⟨s.op++[Qs t f u],s.ev++[⟨1,0,none⟩],s.wr⟩
def Qbt(t:Txt)(b:List UInt8)(kind f u:Int)(s:RSt):RSt :=
 if Q2G s.op (Qs t f u) s.op.length<0 then Q1K t b kind f u (Q1R t 3 f u s)
 else
  let s1:=Q1K t b kind f u (Q1g t f ((Q2G s.op (Qs t f u) s.op.length).toNat+1) (s.op.length+1) s)
  ⟨s1.op.take (Q2G s.op (Qs t f u) s.op.length).toNat,s1.ev++[⟨3,0,none⟩],s1.wr⟩
def Q63(t:Txt)(b:List UInt8)(kind f u:Int)(wh:Bool)(s:RSt):RSt :=
 let s1:=if wh=false then Q1R t 1 f u s else if(kind=8\/kind=9\/kind=10)/\(QD t.r f u).right=false then Q1R t 2 f u s else s
 if wh=true/\kind=8/\0<(Qs t f u).length then Q4x t b kind f u s1
 else if wh=true/\kind=10 then Qbt t b kind f u s1
 else Q1K t b kind f u s1
def Q64(t:Txt)(b:List UInt8)(s:RSt)(x:Tok):RSt:=Q63 t b x.kind x.from_ x.to x.whole s
def QcN(t:Txt)(b:List UInt8)(s:RSt):RSt :=
 let s1:=(Q1r t.r).foldl (Q64 t b) s
 Q1g t t.r.length 0 (s1.op.length+1) s1
def Q2N(b:List UInt8):RSt:=⟨[],if 0<(QX b).2 then [⟨2,23,some (b.take (QX b).2.toNat)⟩]else [],[]⟩
def Q1b(b:List UInt8):RSt:=QcN (Qb b) b (Q2N b)
theorem QgG{l:List Node}(h:Wf l)(x:Node):∀(f:Nat)(n:Int)(top:Bool),0<=n->n<l.length->spF (l++[x]) f n top=spF l f n top
 |0,_,_,_,_=>rfl
 |f+1,n,top,h0,h1=>by
  simp only[spF,Q43 h0 h1];have e1:pr (l++[x]) n=pr l n:=QdB h x h0 h1
  have e2:(Qn l n).kids.flatMap (fun k=>spF (l++[x]) f k false)=(Qn l n).kids.flatMap (fun k=>spF l f k false):=by
   refine congrArg List.flatten (List.map_congr_left fun k hk=>?_)
   have:=h n h0 h1 k hk
   exact QgG h x f k false this.1 (by omega)
  rw[e1,e2]
theorem Qon{l:List Node}(h:Wf l)(x:Node){n:Int}(top:Bool)(h0:0<=n)(h1:n<l.length):spV (l++[x]) n top=spV l n top:=QgG h x _ n top h0 h1
def spL(l:List Node)(ks:List Int):List Ev:=ks.flatMap fun k=>spV l k false
theorem Q5V{l:List Node}(h:Wf l)(x:Node){ks:List Int}(hk:InR l ks):spL (l++[x]) ks=spL l ks :=
 congrArg List.flatten (List.map_congr_left fun k yA=>Qon h x false (hk k yA).1 (hk k yA).2)
theorem Qdi(l:List Node)(a b:List Int):spL l (a++b)=spL l a++spL l b:=by simp[spL]
theorem Q9H(l:List Node)(k:Int):spL l [k]=spV l k false:=by simp[spL]
theorem QcK{l:List Node}(h:Ar l){kind:Int}(hk:kind≠21)(bs:List UInt8):spV (l++[QI kind bs]) l.length false=[⟨2,kind,bs⟩]:=by
 have ha:=Q4A h kind bs;rw[Q8I ha.1.wf (by omega) (by simp only[length_append,length_singleton];omega),Q36,if_pos ⟨hk,rfl⟩,ha.2];rfl
theorem QhU{l:List Node}(h:Ar l){ks:List Int}(hk:InR l ks):spV (l++[Q1i l 21 ks]) l.length false=⟨1,0,[]⟩::(spL l ks++[⟨3,0,[]⟩]):=by
 have ha:=Q6S h 21 hk;rw[Q8I ha.1.wf (by omega) (by simp only[length_append,length_singleton];omega),Q36,if_neg (fun e=>e.1 rfl),if_neg (by decide),if_neg (by decide)]
 show [_]++spL (l++[Q1i l 21 ks]) ks++_=_;rw[Q5V h.wf _ hk];rfl
theorem QmG{l:List Node}(h:Ar l){ks:List Int}(hk:InR l ks):spV (l++[Q1i l 20 ks]) l.length true=spL l ks:=by
 have ha:=Q6S h 20 hk;rw[Q8I ha.1.wf (by omega) (by simp only[length_append,length_singleton];omega),Q36,if_neg (fun e=>by cases e.2),if_pos rfl,if_pos rfl]
 show []++spL (l++[Q1i l 20 ks]) ks++[]=_;rw[Q5V h.wf _ hk,nil_append,List.append_nil]
def evO(l:List Node)(x:Opn):List Ev:=⟨1,0,[]⟩::spL l x.kids
def evS(l:List Node)(s:List Opn):List Ev:=s.flatMap (evO l)
theorem Q6P(l:List Node)(s:List Opn)(x:Opn):evS l (s++[x])=evS l s++evO l x:=by simp[evS]
theorem Q9A{l:List Node}(h:Wf l)(x:Node){s:List Opn}(hs:∀y∈s,InR l y.kids):evS (l++[x]) s=evS l s :=
 congrArg List.flatten (List.map_congr_left fun y hy=>by unfold evO;rw[Q5V h x (hs y hy)])
structure Rel (m:Mk) (s:RSt):Prop where
 op:s.op=(m.s.drop 1).map Opn.name
 wr:s.wr=m.d
 ev:(⟨1,0,[]⟩:Ev)::s.ev.map Evr.ev=evS m.n m.s
theorem QhY{s:List Opn}(hs:s≠[])(x:Opn):(s++[x]).drop 1=s.drop 1++[x]:=by
 cases s with
 |nil=>exact absurd rfl hs
 |cons a r=>rfl
section
variable {m:Mk}{s:RSt}{X:List UInt8}{B D:Nat}
theorem Rel.len(h:Rel m s):s.op.length=m.s.length-1:=by rw[h.op];simp
theorem Rel.wrong(h:Rel m s)(t:Txt)(c f u:Int):Rel (QV t c f u m) (Q1R t c f u s) :=
 ⟨h.op,by show s.wr++_=m.d++_;rw[h.wr],h.ev⟩
theorem Rel.leaf(hm:MkInv m X B D)(h:Rel m s){kind:Int}(hk:kind≠21)(bs:List UInt8)(q:Option (List UInt8))(hq:q.getD []=bs):Rel (Q3g m.n.length (Q20 (QI kind bs) m)) ⟨s.op,s.ev++[⟨2,kind,q⟩],s.wr⟩:=by
 obtain⟨s0,q8⟩:=Q2r hm.s1;generalize QZ m.s=y at q8;have hr:=hm.rng;have ho:=h.op;have he:=h.ev;rw[q8]at hr ho he;have vj:∀z∈s0,InR m.n z.kids:=fun z hz=>hr z (mem_append_left _ hz)
 have ya:InR m.n y.kids:=hr y (by simp)
 refine⟨?_,h.wr,?_⟩
 ·show s.op=((Q2k m.n.length m.s).drop 1).map Opn.name
  rw[q8,Q2D,ho];cases s0<;>simp
 ·show(⟨1,0,[]⟩:Ev)::(s.ev++[(⟨2,kind,q⟩:Evr)]).map Evr.ev=evS (m.n++[QI kind bs]) (Q2k m.n.length m.s)
  rw[Q6P]at he;rw[q8,Q2D,Q6P,Q9A hm.ar.wf _ vj];unfold evO;rw[Qdi,Q9H,Q5V hm.ar.wf _ ya,QcK hm.ar hk,map_append,<-cons_append,he];unfold evO Evr.ev;rw[<-hq];simp
theorem Rel.push(hm:MkInv m X B D)(h:Rel m s)(bs:List UInt8)(nm:List Int)(k:Int)(hk:k≠21):Rel (Q3g m.n.length (Q20 (QI k bs) { m with s:=m.s++[⟨nm,[]⟩] })) ⟨s.op++[nm],(s.ev++[⟨1,0,none⟩])++[⟨2,k,some bs⟩],s.wr⟩:=by
 have jQ:m.s≠[]:=fun e=>by have:=hm.s1;rw[e]at this;simp at this
 refine⟨?_,h.wr,?_⟩
 ·show s.op++[nm]=((Q2k m.n.length (m.s++[⟨nm,[]⟩])).drop 1).map Opn.name
  rw[Q2D,QhY jQ,map_append,<-h.op];rfl
 ·show(⟨1,0,[]⟩:Ev)::((s.ev++[(⟨1,0,none⟩:Evr)])++[(⟨2,k,some bs⟩:Evr)]).map Evr.ev=evS (m.n++[QI k bs]) (Q2k m.n.length (m.s++[⟨nm,[]⟩]))
  rw[Q2D,Q6P,Q9A hm.ar.wf _ hm.rng,<-h.ev];unfold evO;rw[nil_append,Q9H,QcK hm.ar hk];simp[Evr.ev]
theorem Qig(s0:List Opn)(y x:Opn)(z:List Int):(((s0++[y]++[x]).drop 1).map Opn.name).take ((((s0++[y]++[x]).drop 1).map Opn.name).length-1)=((s0++[(⟨y.name,z⟩:Opn)]).drop 1).map Opn.name:=by
 cases s0 with
 |nil=>rfl
 |cons a r =>
  have e:((a::r++[y]++[x]).drop 1).map Opn.name=(r.map Opn.name++[y.name])++[x.name]:=by simp
  rw[e,length_append,length_singleton,Nat.add_sub_cancel,List.take_left];simp
theorem Rel.shut(hm:MkInv m X B D)(h:Rel m s)(hs:2<=m.s.length){kind:Int}(hk:kind≠21)(bs:List UInt8)(q:Option (List UInt8))(hq:q.getD []=bs) :
  Rel (Q22 m.n.length (Q20 (QI kind bs) m)) ⟨s.op.take (s.op.length-1),s.ev++[⟨2,kind,q⟩,⟨3,0,none⟩],s.wr⟩:=by
 obtain⟨s0,y,jL⟩:=QhW hs;generalize QZ m.s=x at jL;obtain⟨en,es⟩:=QmK jL kind bs;obtain⟨qw,ye⟩:=Q4A hm.ar kind bs;have hr:=hm.rng;have ho:=h.op;have he:=h.ev;rw[jL]at hr ho he;have vj:∀z∈s0,InR m.n z.kids:=fun z hz=>hr z (mem_append_left _ (mem_append_left _ hz))
 have ya:InR m.n y.kids:=hr y (mem_append_left _ (by simp))
 have g8:InR m.n x.kids:=hr x (by simp)
 have yk:InR (m.n++[QI kind bs]) (x.kids++[(m.n.length:Int)]):=fun k hk=>by
  rcases mem_append.1 hk with hk|hk
  ·exact g8.more _ k hk
  ·obtain rfl:k=(m.n.length:Int):=by simpa using hk
   simp;omega
 have j9:=QhU qw yk
 have e1:spL (m.n++[QI kind bs]) (x.kids++[(m.n.length:Int)])=spL m.n x.kids++[⟨2,kind,bs⟩]:=by
  rw[Qdi,Q9H,Q5V hm.ar.wf _ g8,QcK hm.ar hk]
 rw[e1]at j9;obtain⟨l1,hl⟩:=exq (m.n++[QI kind bs]);rw[<-hl]at j9 en es qw;generalize Q1i l1 21 (x.kids++[(m.n.length:Int)])=z at j9 en
 have up0:evS (l1++[z]) s0=evS m.n s0:=by
  rw[Q9A qw.wf z (fun q hq=>by rw[hl];exact(vj q hq).more _),hl,Q9A hm.ar.wf _ vj]
 have upy:spL (l1++[z]) y.kids=spL m.n y.kids:=by
  rw[Q5V qw.wf z (by rw[hl];exact ya.more _),hl,Q5V hm.ar.wf _ ya]
 refine⟨?_,h.wr,?_⟩
 ·show s.op.take (s.op.length-1)=_
  rw[es,ho,Qig]
 ·show(⟨1,0,[]⟩:Ev)::(s.ev++[(⟨2,kind,q⟩:Evr),⟨3,0,none⟩]).map Evr.ev=_
  rw[Q6P,Q6P]at he;rw[en,es,Q6P,up0,map_append,<-cons_append,he];unfold evO;rw[Qdi,Q9H,upy,j9,<-hq];simp[Evr.ev]
theorem Rel.miss(hm:MkInv m X B D)(h:Rel m s)(hs:2<=m.s.length)(t:Txt)(a:Int):Rel (Q3l t a m) (Q2h t a s) :=
 Rel.shut (Q1P hm t 4 a a) (h.wrong t 4 a a) hs (kind:=22) (by decide) [] none rfl
end
theorem Rel.missGo(t:Txt)(f:Int)(k:Nat){X:List UInt8}{B D:Nat}:∀(n:Nat)(m:Mk)(s:RSt),MkInv m X B D->Rel m s->Rel (Go.Proofs.YtibemhahkicbpaaGreat.missGo t f k n m) (Q1g t f k n s)
 |0,m,s,_,h=>h
 |n+1,m,s,hm,h=>by
  show Rel (if _ then _ else _) (if _ then _ else _);rw[h.len];split
  ·exact Rel.missGo t f k n _ _ (Q5D hm (by omega) t f).1 (h.miss hm (by omega) t f)
  ·exact h
theorem QgH(s:List Opn)(nm:List Int):∀k,((Q2g s nm k:Nat):Int)=Q2G ((s.drop 1).map Opn.name) nm k+1
 |0=>rfl
 |k+1=>by
  unfold Q2g Q2G
  have e:((s.drop 1).map Opn.name)[k]?.getD []=(s[k+1]?.getD ⟨[],[]⟩).name:=by
   rw[getElem?_map,List.getElem?_drop,Nat.add_comm 1 k];cases s[k+1]?<;>rfl
  rw[e];split
  ·rfl
  ·exact QgH s nm k
theorem Qa8(t:Txt)(f:Int)(k:Nat):∀(n:Nat)(s:RSt),k<=s.op.length->s.op.length<=n+k->(Q1g t f k n s).op.length=k
 |0,s,h1,h2=>by show s.op.length=k;omega
 |n+1,s,h1,h2=>by
  show(if _ then _ else _:RSt).op.length=k
  split
  ·have e:(Q2h t f s).op.length=s.op.length-1:=by show(s.op.take (s.op.length-1)).length=_;rw[List.length_take];omega
   exact Qa8 t f k n _ (by omega) (by omega)
  ·omega
section
variable {m:Mk}{s:RSt}{X:List UInt8}{B D:Nat}{t:Txt}{b:List UInt8}{f u:Int}
theorem Rel.lk(hm:MkInv m X B D)(h:Rel m s){kind:Int}(hk:kind≠21):Rel (lkF t b kind f u m) (Q1K t b kind f u s) :=
 Rel.leaf hm h hk (QU t b f u) (some (QU t b f u)) rfl
theorem Rel.start(hm:MkInv m X B D)(h:Rel m s){kind:Int}(hk:kind≠21):Rel (Q1G t b kind f u m) (Q4x t b kind f u s):=by
 have h1:=hm.s1;unfold Q1G Q4x;rw[h.len];by_cases hc:64<m.s.length
 ·rw[if_pos hc,if_pos (by omega)]
  exact Rel.lk (Q1P hm t 5 f u) (h.wrong t 5 f u) hk
 ·rw[if_neg hc,if_neg (by omega)]
  exact Rel.push hm h (QU t b f u) (Qs t f u) kind hk
theorem Rel.end_(hm:MkInv m X B D)(h:Rel m s){kind:Int}(hk:kind≠21):Rel (Q2Y t b kind f u m) (Qbt t b kind f u s):=by
 have h1:=hm.s1;have hf:=QgH m.s (Qs t f u) (m.s.length-1);have jJ:=Q61 m.s (Qs t f u) (m.s.length-1);rw[<-h.op]at hf;unfold Q2Y Qbt;rw[h.len];simp only
 generalize hK:Q2g m.s (Qs t f u) (m.s.length-1)=K at hf jJ ⊢;generalize hR:Q2G s.op (Qs t f u) (m.s.length-1)=r at hf ⊢;by_cases hc:K=0
 ·rw[if_pos hc,if_pos (by omega)]
  exact Rel.lk (Q1P hm t 3 f u) (h.wrong t 3 f u) hk
 ·rw[if_neg hc,if_neg (by omega)]
  have hr:r.toNat+1=K:=by omega
  rw[show m.s.length-1+1=m.s.length by omega,hr]
  obtain⟨h3,h4⟩:=Q7R t f K m.s.length m hm (by omega) (by omega)
  have h5:=Rel.missGo t f K m.s.length m s hm h;have h6:=h5.len;have h7:=Rel.shut h3 h5 (by omega) hk (QU t b f u) (some (QU t b f u)) rfl
  have e:r.toNat=(Q1g t f K m.s.length s).op.length-1:=by omega
  show Rel _ ⟨(Q1g t f K m.s.length s).op.take r.toNat,((Q1g t f K m.s.length s).ev++[_])++[_],_⟩;rw[e,append_assoc];exact h7
theorem Rel.token(hm:MkInv m X B D)(h:Rel m s){kind:Int}(hk:kind≠21)(wh:Bool):Rel (Q26 t b kind f u wh m) (Q63 t b kind f u wh s):=by
 unfold Q26 Q63;simp only
 generalize qF:(if wh=false then QV t 1 f u m else if(kind=8\/kind=9\/kind=10)/\(QD t.r f u).right=false then QV t 2 f u m else m)=m1;generalize jL:(if wh=false then Q1R t 1 f u s else if(kind=8\/kind=9\/kind=10)/\(QD t.r f u).right=false then Q1R t 2 f u s else s)=s1
 have h3:∃D',MkInv m1 X B D'/\Rel m1 s1:=by
  rw[<-qF,<-jL];split
  ·exact⟨_,Q1P hm t 1 f u,h.wrong t 1 f u⟩
  ·split
   ·exact⟨_,Q1P hm t 2 f u,h.wrong t 2 f u⟩
   ·exact⟨_,hm,h⟩
 obtain⟨D',h3,h4⟩:=h3;split
 ·exact Rel.start h3 h4 hk
 ·split
  ·exact Rel.end_ h3 h4 hk
  ·exact Rel.lk h3 h4 hk
end
theorem Rel.toks{t:Txt}{b:List UInt8}(ok:TxtOk t b)(hr:t.r.length<=1000000):∀(n k:Nat)(m:Mk)(s:RSt)(B D:Nat),t.r.length-k<=n->k<=t.r.length->MkI m (Q6y t b k) B D->Rel m s ->
  Rel ((Q1S t.r k).foldl (Q7k t b) m) ((Q1S t.r k).foldl (Q64 t b) s)
 |0,k,m,s,B,D,h,hk,hi,hc=>by
  rw[Q1k (by omega)];exact hc
 |n+1,k,m,s,B,D,h,hk,hi,hc=>by
  by_cases jA:k<t.r.length
  ·obtain⟨h1,h2,h3,h4⟩:=Q9S t.r jA
   rw[Q1O jA,foldl_cons,foldl_cons];have:=hi.token t b hr (Q1m t.r k).kind (Q1m t.r k).from_ (Q1m t.r k).to (Q1m t.r k).whole
   rw[h1,h2,Q7B ok (by omega) (by omega) (by omega)]at this
   have jD:(Q1m t.r k).kind≠21:=by
    show(((Ql t.r k).1:Nat):Int)≠21
    have:=Qf9 t.r k
    omega
   have h5:Rel (Q26 t b (Q1m t.r k).kind k ((Ql t.r k).2.1:Nat) (Q1m t.r k).whole m) (Q64 t b s (Q1m t.r k)):=Rel.token hi.i hc jD _;exact Rel.toks ok hr n (Ql t.r k).2.1 _ _ (B+3) (D+3) (by omega) h4 this h5
  ·rw[Q1k jA];exact hc
theorem QhJ(b:List UInt8):Rel (Q3s b) (Q2N b):=by
 have h0:Rel mk0 ⟨[],[],[]⟩:=⟨rfl,rfl,rfl⟩;unfold Q3s Q2N;split
 ·exact Rel.leaf mk0_inv.i h0 (kind:=23) (by decide) _ (some _) rfl
 ·exact h0
theorem Q8S(b:List UInt8)(hb:b.length<=100000):(Q1b b).wr=(Qu b).d/\(Q1b b).ev.map Evr.ev=spV (QL (Qu b)).n (Qu b).n.length true:=by
 have hs:=Q6r b hb;have ok:=(Q3N b).1;have hi:=Q6Y b;obtain⟨h1,h2⟩:=Qda ok hs.hr hi;have h3:=Rel.toks ok hs.hr (Qb b).r.length 0 _ _ _ _ (by omega) (by omega) hi (QhJ b)
 have h4:=(QaO ok hs.hr (Qb b).r.length 0 _ _ _ (by omega) (by omega) hi)
 have hR:Rel (Qu b) (Q1b b):=by
  show Rel (missGo _ _ _ _ _) (Q1g _ _ _ _ _);have e:=h3.len;have jL:=h4.i.s1;show Rel (missGo (Qb b) _ 0 ((Q1S (Qb b).r 0).foldl (Q7k (Qb b) b) (Q3s b)).s.length ((Q1S (Qb b).r 0).foldl (Q7k (Qb b) b) (Q3s b))) (Q1g (Qb b) _ 0 (((Q1S (Qb b).r 0).foldl (Q64 (Qb b) b) (Q2N b)).op.length+1) ((Q1S (Qb b).r 0).foldl (Q64 (Qb b) b) (Q2N b)));rw[e,show ∀x:Nat,1<=x->x-1+1=x from fun x hx=>by omega]
  ·exact Rel.missGo _ _ _ _ _ _ h4.i h3
  ·exact jL
 refine⟨hR.wr,?_⟩;have h2:(Qu b).s.length=1:=h2;obtain⟨x,hx⟩:=List.length_eq_one_iff.1 h2;have hr:=h1.i.rng;have yG:(Q8R (Qb b) b (Q3s b)).s=[x]:=hx;rw[yG]at hr;have he:=hR.ev;rw[hx]at he
 have he2:(Q1b b).ev.map Evr.ev=spL (Qu b).n x.kids:=by
  have:evS (Qu b).n [x]=⟨1,0,[]⟩::spL (Qu b).n x.kids:=by simp[evS,evO]
  rw[this]at he;exact(List.cons.inj he).2
 rw[he2]
 have e3:(QL (Qu b)).n=(Qu b).n++[Q1i (Qu b).n 20 x.kids]:=by
  show(Qu b).n++[Q1i (Qu b).n 20 (QZ (Qu b).s).kids]=_
  rw[hx];rfl
 rw[e3];exact(QmG h1.i.ar (hr x (by simp))).symm
section
open Tryz
def QtI:Option (List UInt8)->AV
 |some b=>.slc 1 (Q2 b)
 |none=>.val (.slice none 0 0)
def El.av(x:El):AV:=.agg [.slc 1 (Q9 x.path),.val (.int .i64 x.fr),.val (.int .i64 x.to),.val (.int .i64 x.inn),.val (.int .i64 x.out),.val (.bool x.emp),QtI x.tag]
def QqM(l:List El):List AV:=l.map El.av
theorem QrG(a b:List El):QqM (a++b)=QqM a++QqM b:=by simp[QqM]
theorem QqV(a:List El):(QqM a).length=a.length:=by simp[QqM]
def Qu8(wi:List AV->Int->List AV)(P0:List AV):Nat->List AV->List Ob->Option (AV×List Ob):=fun f args _=>match f,args with
 |66,[.slc 1 l,.val (.int .i64 k)]=>some (.slc 1 (wi l k),[])
 |66,[.val (.slice none 0 0),.val (.int .i64 k)]=>some (.slc 1 (wi P0 k),[])
 |_,_=>none
def Qr4(l:List AV)(k:Int):List AV:=l++[.val (.int .i64 k)]
theorem Qtu(l:List Int):l[((l.length:Int)-1).toNat]?.getD 0=l.getLast?.getD 0:=by
 rw[List.getLast?_eq_getElem?,show((l.length:Int)-1).toNat=l.length-1 by omega]
theorem Qrq{l:List Int}(h:l.length≠0):std.nth (std.cel (std.at_ (Q9 l) (std.sub (std.len (Q9 l)) 1))) 0=.val (.int .i64 (l.getLast?.getD 0)):=by
 have e:std.sub (std.len (Q9 l)) 1=(l.length:Int)-1:=by
  show((Q9 l).length:Int)-1=_
  rw[Q2w]
 rw[e,QdH (by omega) (by omega),Qtu]
theorem Qtd{l:List Int}(h:l.length≠0)(v:Int):std.setx (Q9 l) (std.sub (std.len (Q9 l)) 1) 0 [.val (.int .i64 v)]=Q9 (l.dropLast++[v]):=by
 have e:std.sub (std.len (Q9 l)) 1=(l.length:Int)-1:=by
  show((Q9 l).length:Int)-1=_
  rw[Q2w]
 rw[e,QrP];congr 1
 obtain⟨a,x,rfl⟩:∃a x,l=a++[x]:=⟨l.dropLast,l.getLast (fun e=>h (by rw[e];rfl)),(List.dropLast_concat_getLast _).symm⟩
 have:((((a++[x]).length:Nat):Int)-1).toNat=a.length:=by simp
 rw[this];simp
theorem QrR(l:List Int):std.cut (Q9 l) 0 (std.sub (std.len (Q9 l)) 1)=Q9 l.dropLast:=by
 show((Q9 l).drop (0:Int).toNat).take (((Q9 l).length:Int)-1-0).toNat=_
 rw[Q2w,show(((l.length:Nat):Int)-1-0).toNat=l.length-1 by omega,List.dropLast_eq_take,Q9,Q9,List.map_take];rfl
theorem Qrl(o:List El)(k:Int)(off:Nat)(v:AV)(f:El->El)(hf:∀x:El,(f x).av=Qti x.av off [v])(h0:0<=k)(h1:k<o.length):std.setx (QqM o) k off [v]=QqM (o.modify k.toNat f):=by
 show(QqM o).set k.toNat (Qti ((QqM o).getD k.toNat .dead) off [v])=_
 have hk:k.toNat<o.length:=by omega
 have e:(QqM o).getD k.toNat .dead=(o[k.toNat]).av:=by rw[getD_eq_getElem?_getD,QqM,getElem?_map,getElem?_eq_getElem hk];rfl
 rw[e,<-hf];refine List.ext_getElem? fun j=>?_
 rw[QqM,QqM,getElem?_map,List.getElem?_modify,List.getElem?_set];by_cases hj:k.toNat=j
 ·subst hj
  rw[if_pos rfl,if_pos (by rw[length_map];exact hk),getElem?_eq_getElem hk];simp
 ·rw[if_neg hj,getElem?_map];cases o[j]?<;>simp[hj]
theorem Qts{o:List El}{k:Int}(h0:0<=k)(h1:k<o.length):std.nth (std.drp (std.cel (std.at_ (QqM o) k)) 3) 0=.val (.int .i64 (o[k.toNat]?.getD default).inn):=by
 have hk:k.toNat<o.length:=by omega
 show List.getD (List.drop 3 (AV.cells ((QqM o).getD k.toNat .dead))) 0 .dead=_;rw[getD_eq_getElem?_getD (l:=QqM o),QqM,getElem?_map,getElem?_eq_getElem hk];rfl
def Qrt(ev:List Ev)(i:Int):Al:=(ev.take i.toNat).foldl QqP ⟨[],[],[0],0,0,[]⟩
theorem Qs7{ev:List Ev}{i:Int}(h0:0<=i)(h1:i<ev.length):Qrt ev (i+1)=QqP (Qrt ev i) (ev[i.toNat]?.getD default):=by
 have hk:i.toNat<ev.length:=by omega
 unfold Qrt;rw[show(i+1).toNat=i.toNat+1 by omega,List.take_add_one,getElem?_eq_getElem hk,foldl_append];rfl
theorem Qsn{ev:List Ev}{B:Int}(hn:QqZ ev 0)(hB:Qr3 ev<=B):∀(k:Nat),k<=ev.length->∃d,AlOk d B k (Qrt ev k)/\QqZ (ev.drop k) d/\(Qrt ev k).at_+Qr3 (ev.drop k)<=B
 |0,_=>by
  have h0:=Qrv ev;refine⟨0,⟨rfl,rfl,rfl,fun x hx=>(List.not_mem_nil hx).elim,fun x hx=>?_,fun x hx=>(List.not_mem_nil hx).elim,⟨le_refl 0,by show 0<=B;omega⟩,⟨le_refl 0,by show 0<=B;omega⟩,le_refl 0,le_refl 0⟩,hn,by show 0+Qr3 ev<=B;omega⟩
  obtain rfl:x=0:=mem_singleton.1 hx;exact⟨le_refl 0,le_refl 0⟩
 |k+1,hk=>by
  obtain⟨d,h1,h2,h3⟩:=Qsn hn hB k (by omega)
  have yA:k<ev.length:=by omega
  rw[List.drop_eq_getElem_cons yA]at h2 h3;rw[Qrk]at h3;have h4:=Qrv (ev.drop (k+1));obtain⟨d',h5,h6⟩:=h1.step (by omega) h2 (by omega)
  have e:Qrt ev ((k+1:Nat):Int)=QqP (Qrt ev k) ev[k]:=by
   have:=Qs7 (ev:=ev) (i:=(k:Int)) (by omega) (by omega)
   rw[toNat_natCast,getElem?_eq_getElem yA]at this;exact this
  refine⟨d',?_,h6,?_⟩
  ·rw[e];exact h5
  ·rw[e]
   have:(QqP (Qrt ev k) ev[k]).at_<=(Qrt ev k).at_+ev[k].b.length:=by
    unfold QqP;split
    ·show(Qrt ev k).at_<=_;omega
    ·split
     ·show(Qrt ev k).at_<=_;omega
     ·split<;>exact le_refl _
   omega
theorem QuE(c0 c1 c2 c3 c4 c5 c7:AV)(ev:List Evr)(hl:ev.length<=1000000)(zB:QqZ (ev.map Evr.ev) 0)(hB:Qr3 (ev.map Evr.ev)<=1000000) :
  BCall prog 28 [.ref [c0,c1,c2,c3,c4,c5,.slc 3 (Qv ev),c7]] [] (.slc 7 (QqM (alF (ev.map Evr.ev)).o)) []:=by
 obtain⟨n,hn⟩:=QE ev;have jE:std.len (Qv ev)=n:=by show((Qv ev).length:Int)=n;rw[Q6A,hn.eq]
 have js:0<=n/\n<=1000000:=by rw[hn.eq];omega
 obtain⟨al,jX⟩:=exq (Qrt (ev.map Evr.ev):Int->Al)
 have qR:(alF (ev.map Evr.ev))=al n:=by
  rw[jX,Qrt,List.take_of_length_le (by rw[length_map];have:=hn.eq;omega)];rfl
 have jC:∀i:Int,0<=i->i<=n->∃d,AlOk d 1000000 i (al i)/\QqZ ((ev.map Evr.ev).drop i.toNat) d/\(al i).at_+Qr3 ((ev.map Evr.ev).drop i.toNat)<=1000000:=fun i h0 h1=>by
  have h:=Qsn zB hB i.toNat (by rw[length_map];have:=hn.eq;omega)
  rw[show((i.toNat:Nat):Int)=i by omega]at h
  rw[jX];exact h
 have jI:∀i:Int,0<=i->i<n->al (i+1)=QqP (al i) ((ev[i.toNat]?.getD default).ev):=fun i h0 h1=>by
  have h:=Qs7 (ev:=ev.map Evr.ev) (i:=i) h0 (by rw[length_map,<-hn.eq];exact h1)
  have hk:i.toNat<ev.length:=by have:=hn.eq;omega
  rw[getElem?_map,getElem?_eq_getElem hk]at h;rw[jX,h,getElem?_eq_getElem hk];rfl
 rw[qR];refine fnO false (Qu8 Qr4 []) (fun id=>match id with|11=> .of [0,1,2,3,4,5,7,8,9,10,11,12,13,14,6,15,16,17,18]|_=>.nil) func28 rfl fun _ _=>?_
 with_reducible refine cv2 Qr4 (Qv ev) ?_
 refine⟨⟨.inl rfl,trivial⟩,?_⟩;refine Q46 (cs:=(fun x:Int×Bool=>Qu8 Qr4 (Q9 (al x.1).pa))) (ord:=fun id=>match id with|11=> .of [0,1,2,3,4,5,7,8,9,10,11,12,13,14,6,15,16,17,18]|_=>.nil) Q6k (by kernel_rfl) (by kernel_rfl) (by kernel_rfl) (X:=Int×Bool) (fun x=>⟨[(3,.row 0 0),(4,.row 1 0),(5,.row 2 0),(6,.val (.int .i64 (al x.1).at_)),(7,.val (.int .i64 (al x.1).last)),(8,if x.2=true then .slc 1 (Q9 (al x.1).pa)else .val (.slice none 0 0)),(17,.slc 3 (Qv ev)),(18,.val (.int .i64 n)),(19,.val (.int .i64 x.1))],[.row 46 7 false 0 (QqM (al x.1).o),.row 3 1 false 0 (Q9 (al x.1).op),.row 3 1 false 0 (Q9 (al x.1).ct)]⟩) (fun x=>0<=x.1/\x.1<=n/\(x.2=false->(al x.1).pa=[])) (fun x=>(n-x.1).toNat) (0,false) ?_ ?_ ?_
 ·exact⟨le_refl 0,js.1,fun _=>by rw[jX];rfl⟩
 ·refine⟨[none,none,some 0],_,rfl,?_⟩
  subst jX;exact eq1 jE
 ·rintro⟨i,fl⟩ ⟨jK,qi,vL⟩
  have jK:0<=i:=jK;have qi:i<=n:=qi;obtain⟨s,hs⟩:=exq (al i);have vL:fl=false->s.pa=[]:=by rw[hs];exact vL
  obtain⟨d,hA,hN,hB2⟩:=jC i jK qi;rw[<-hs]at hA hB2;simp only
  rw[<-hs];have vU:s.ct.length≠0:=by rw[hA.ct];omega
  have ke:=Qrq vU;obtain⟨cl,qu⟩:=exq (s.ct.getLast?.getD 0);have hclr:=hA.last_ct;rw[<-qu]at ke hclr;have hCL:=Ql3 ke;have jR:=hA.ol;have hA0:=hA.a0
  have qN:(std.inb (std.sub (std.len (Q9 s.ct)) 1) (std.len (Q9 s.ct))).q:=by
   show 0<=((Q9 s.ct).length:Int)-1/\((Q9 s.ct).length:Int)-1<((Q9 s.ct).length:Int);rw[Q2w];omega
  have pS:=hA.dl;have hctl:s.ct.length<=1000001:=by have:=hA.ct;omega
  have qN9:(std.inR .i64 (std.sub (std.len (Q9 s.ct)) 1)).q:=by
   show -9223372036854775808<=((Q9 s.ct).length:Int)-1/\((Q9 s.ct).length:Int)-1<=9223372036854775807;rw[Q2w];omega
  have qI:i<n->(std.inR .i64 (std.add i 1)).q:=fun h=>by
   show -9223372036854775808<=i+1/\i+1<=9223372036854775807;omega
  have cW:=Qut s.pa cl (by rw[hA.pa];have:=hA.ct;omega)
  have eW:Q9 (s.pa++[cl])=Qr4 (Q9 s.pa) (std.int (std.nth (std.cel (std.at_ (Q9 s.ct) (std.sub (std.len (Q9 s.ct)) 1))) 0)):=by rw[hCL,Q4T];rfl
  have cW2:BCall prog 66 [.slc 1 (Q9 s.pa),.val (.int .i64 (std.int (std.nth (std.cel (std.at_ (Q9 s.ct) (std.sub (std.len (Q9 s.ct)) 1))) 0)))] [] (.slc 1 (Qr4 (Q9 s.pa) (std.int (std.nth (std.cel (std.at_ (Q9 s.ct) (std.sub (std.len (Q9 s.ct)) 1))) 0)))) []:=by
   rw[<-eW,hCL];exact cW
  have qC1:(std.inR .i64 (std.add (std.int (std.nth (std.cel (std.at_ (Q9 s.ct) (std.sub (std.len (Q9 s.ct)) 1))) 0)) 1)).q:=by
   rw[hCL];show -9223372036854775808<=cl+1/\cl+1<=9223372036854775807;omega
  have eC:std.setx (Q9 s.ct) (std.sub (std.len (Q9 s.ct)) 1) 0 [.val (.int .i64 (std.add (std.int (std.nth (std.cel (std.at_ (Q9 s.ct) (std.sub (std.len (Q9 s.ct)) 1))) 0)) 1))]=Q9 (QqY s.ct):=by
   rw[hCL,Qtd vU,qu];rfl
  have hcal:=Qrd vU;cases fl
  case' false =>
   have pN:=vL rfl;have cW2:BCall prog 66 [.val (.slice none 0 0),.val (.int .i64 (std.int (std.nth (std.cel (std.at_ (Q9 s.ct) (std.sub (std.len (Q9 s.ct)) 1))) 0)))] [] (.slc 1 (Qr4 (Q9 s.pa) (std.int (std.nth (std.cel (std.at_ (Q9 s.ct) (std.sub (std.len (Q9 s.ct)) 1))) 0)))) []:=cW2.le ⟨.inr (.inl ⟨rfl,_,by rw[pN];rfl⟩),.inl rfl,trivial⟩
   rw[if_neg Bool.false_ne_true];with_reducible refine cv8 Qr4 (Qv ev) (QqM s.o) (Q9 s.op) (Q9 s.ct) (Q9 s.pa) s.at_ s.last ?_
  case' true =>
   rw[if_pos rfl];with_reducible refine cv8 Qr4 (Qv ev) (QqM s.o) (Q9 s.op) (Q9 s.ct) (Q9 s.pa) s.at_ s.last ?_
  all_goals
   refine⟨fun h=>?_,fun h=>?_⟩
   ·have jM:i<n:=of_decide_eq_true h
    have hk:i.toNat<ev.length:=by have:=hn.eq;omega
    obtain⟨e,he⟩:=exq (ev[i.toNat])
    have jV:std.at_ (Qv ev) i=e.av:=by
     show(Qv ev).getD i.toNat .dead=_
     rw[getD_eq_getElem?_getD,Qv,getElem?_map,getElem?_eq_getElem hk,he];rfl
    have vW:(ev.map Evr.ev).drop i.toNat=e.ev::(ev.map Evr.ev).drop (i.toNat+1):=by
     rw[List.drop_eq_getElem_cons (by rw[length_map];exact hk),List.getElem_map,he]
    rw[vW]at hN hB2;rw[Qrk]at hB2;have j9:=Qrv ((ev.map Evr.ev).drop (i.toNat+1));have jH:al (i+1)=QqP s e.ev:=by rw[jI i jK jM,<-hs,getElem?_eq_getElem hk,he];rfl
    have xX:(std.all [std.hasI .i64 (std.nth (std.cel (std.at_ (Qv ev) i)) 0),std.hasI .i64 (std.nth (std.cel (std.at_ (Qv ev) i)) 1),std.hasL 1 (std.nth (std.cel (std.at_ (Qv ev) i)) 2)]).q:=by
     rw[jV];refine⟨rfl,rfl,?_,trivial⟩;show(std.hasL 1 e.ba).q
     unfold Evr.ba;split
     ·exact .inl rfl
     ·exact .inr rfl
    have hD:std.int (std.nth (std.cel (std.at_ (Qv ev) i)) 0)=e.do_:=by rw[jV];rfl
    have hK:std.int (std.nth (std.cel (std.at_ (Qv ev) i)) 1)=e.kind:=by rw[jV];rfl
    have hBb:std.lst (std.nth (std.cel (std.at_ (Qv ev) i)) 2)=Q2 e.ev.b:=by
     rw[jV];show Q2x e.ba=Q2 (e.b.getD []);unfold Evr.ba;cases e.b<;>rfl
    have eD:e.ev.do_=e.do_:=rfl;have eK:e.ev.kind=e.kind:=rfl;obtain⟨bb,xy⟩:=exq e.ev.b
    have xY:std.len (std.lst (std.nth (std.cel (std.at_ (Qv ev) i)) 2))=(bb.length:Int):=by
     rw[hBb,<-xy];show((Q2 bb).length:Int)=_
     rw[Q11]
    rw[<-xy]at hB2 hBb;unfold QqP at jH;rw[eD,eK,<-xy]at jH;rw[QqZ,eD]at hN
    have qAt:(std.inR .i64 (std.add s.at_ (std.len (std.lst (std.nth (std.cel (std.at_ (Qv ev) i)) 2))))).q:=by
     rw[xY];show -9223372036854775808<=s.at_+(bb.length:Int)/\s.at_+(bb.length:Int)<=9223372036854775807;omega
    have eAt:std.add s.at_ (std.len (std.lst (std.nth (std.cel (std.at_ (Qv ev) i)) 2)))=s.at_+(bb.length:Int):=by rw[xY];rfl
    refine⟨⟨jK,by show i<std.len (Qv ev);rw[jE];exact jM⟩,xX,qN9,fun h1=>?_,fun h1=>⟨fun h3=>?_,fun h3=>⟨fun h9=>?_,fun h9=>⟨fun ho=>?_,fun ho=>?_⟩⟩⟩⟩
    ·have e1:e.do_=1:=by rw[<-hD];exact eq_of_beq h1
     rw[if_pos e1,<-qu]at jH
     have eo:std.app (QqM s.o) [.agg [.slc 1 (Qr4 (Q9 s.pa) (std.int (std.nth (std.cel (std.at_ (Q9 s.ct) (std.sub (std.len (Q9 s.ct)) 1))) 0))),.val (.int .i64 s.at_),.val (.int .i64 0),.val (.int .i64 (-1)),.val (.int .i64 0),.val (.bool false),.val (.slice none 0 0)]]=QqM (al (i+1)).o:=by
      rw[jH,QrG,<-eW];rfl
     have ep:std.app (Q9 s.op) [.val (.int .i64 (std.len (QqM s.o)))]=Q9 (al (i+1)).op:=by
      rw[jH,Q4T];show Q9 s.op++[.val (.int .i64 ((QqM s.o).length:Int))]=_;rw[QqV];rfl
     have ec:std.app (std.setx (Q9 s.ct) (std.sub (std.len (Q9 s.ct)) 1) 0 [.val (.int .i64 (std.add (std.int (std.nth (std.cel (std.at_ (Q9 s.ct) (std.sub (std.len (Q9 s.ct)) 1))) 0)) 1))]) [.val (.int .i64 0)]=Q9 (al (i+1)).ct:=by
      rw[jH,eC,Q4T];rfl
     have ea:s.at_=(al (i+1)).at_:=by rw[jH]
     have el:s.last=(al (i+1)).last:=by rw[jH]
     have eq_:Qr4 (Q9 s.pa) (std.int (std.nth (std.cel (std.at_ (Q9 s.ct) (std.sub (std.len (Q9 s.ct)) 1))) 0))=Q9 (al (i+1)).pa:=by rw[jH,<-eW]
     have qb1:(std.bnd (std.setx (Q9 s.ct) (std.sub (std.len (Q9 s.ct)) 1) 0 [.val (.int .i64 (std.add (std.int (std.nth (std.cel (std.at_ (Q9 s.ct) (std.sub (std.len (Q9 s.ct)) 1))) 0)) 1))]) [.val (.int .i64 0)]).q:=by
      rw[eC];show(Q9 (QqY s.ct)).length+1<=1000000000
      rw[Q2w,hcal];omega
     refine⟨qN,⟨QmM ke,trivial⟩,cW2,qN,⟨QmM ke,trivial⟩,qC1,qN,qb1,?_,?_,qI jM,(i+1,true),⟨by show 0<=i+1;omega,by show i+1<=n;omega,fun h=>Bool.noConfusion h⟩,by show(n-(i+1)).toNat<(n-i).toNat;omega,[some 0,some 1,some 2],_,rfl,?_⟩
     ·show(Q9 s.op).length+1<=1000000000
      rw[Q2w,hA.op];omega
     ·show(QqM s.o).length+1<=1000000000
      rw[QqV];omega
     ·exact eq6 eo ep ec ea el eq_
    ·have e1:¬e.do_=1:=fun x=>by
      have h1:(std.int (std.nth (std.cel (std.at_ (Qv ev) i)) 0) == 1)=false:=h1;rw[hD,x]at h1;exact absurd h1 (by decide)
     have e3:e.do_=3:=by rw[<-hD];exact eq_of_beq h3
     rw[if_neg e1,if_pos e3]at jH hN;have jz:=hA.pa
     have jQ:s.pa≠[]:=fun e=>by
      rw[e]at jz;have jz:0=d:=jz;have:=hN.1
      omega
     try exact absurd pN jQ
     all_goals
      have ye:s.op.length≠0:=by rw[hA.op];have:=hN.1;omega
      have zS:=Qrq ye;obtain⟨pl,vv⟩:=exq (s.op.getLast?.getD 0);rw[<-vv]at zS;have cM:=Ql3 zS
      have yU:0<=pl/\pl<s.o.length:=by
       cases hg:s.op.getLast? with
       |none=>exact absurd (congrArg List.length (getLast?_eq_none_iff.1 hg)) ye
       |some y =>
        rw[hg]at vv;rw[vv];exact hA.opr y (mem_of_getLast? hg)
      have hopl:=hA.op
      have qP:(std.inb (std.sub (std.len (Q9 s.op)) 1) (std.len (Q9 s.op))).q:=by
       show 0<=((Q9 s.op).length:Int)-1/\((Q9 s.op).length:Int)-1<((Q9 s.op).length:Int);rw[Q2w];omega
      have qP9:(std.inR .i64 (std.sub (std.len (Q9 s.op)) 1)).q:=by
       show -9223372036854775808<=((Q9 s.op).length:Int)-1/\((Q9 s.op).length:Int)-1<=9223372036854775807;rw[Q2w];omega
      have qPL:(std.inb (std.int (std.nth (std.cel (std.at_ (Q9 s.op) (std.sub (std.len (Q9 s.op)) 1))) 0)) (std.len (QqM s.o))).q:=by
       rw[cM];show 0<=pl/\pl<((QqM s.o).length:Int);rw[QqV];exact yU
      have qPL2:∀off v,(std.inb (std.int (std.nth (std.cel (std.at_ (Q9 s.op) (std.sub (std.len (Q9 s.op)) 1))) 0)) (std.len (std.setx (QqM s.o) (std.int (std.nth (std.cel (std.at_ (Q9 s.op) (std.sub (std.len (Q9 s.op)) 1))) 0)) off v))).q:=fun off v=>by
       rw[cM];show 0<=pl/\pl<((Qr8 (QqM s.o) pl.toNat off v).length:Int);rw[Qr0,QqV];exact yU
      rw[<-vv]at jH
      have eo:std.setx (std.setx (QqM s.o) (std.int (std.nth (std.cel (std.at_ (Q9 s.op) (std.sub (std.len (Q9 s.op)) 1))) 0)) 2 [.val (.int .i64 s.at_)]) (std.int (std.nth (std.cel (std.at_ (Q9 s.op) (std.sub (std.len (Q9 s.op)) 1))) 0)) 4 [.val (.int .i64 s.last)]=QqM (al (i+1)).o:=by
       rw[cM,Qrl s.o pl 2 _ (fun x=>{ x with to:=s.at_ }) (fun x=>rfl) yU.1 yU.2,Qrl _ pl 4 _ (fun x=>{ x with out:=s.last }) (fun x=>rfl) yU.1 (by rw[List.length_modify];exact yU.2),List.modify_modify_eq,jH];rfl
      have ep:std.cut (Q9 s.op) 0 (std.sub (std.len (Q9 s.op)) 1)=Q9 (al (i+1)).op:=by rw[QrR,jH]
      have ec:std.cut (Q9 s.ct) 0 (std.sub (std.len (Q9 s.ct)) 1)=Q9 (al (i+1)).ct:=by rw[QrR,jH]
      have ea:s.at_=(al (i+1)).at_:=by rw[jH]
      have el:s.last=(al (i+1)).last:=by rw[jH]
      have eq_:std.cut (Q9 s.pa) 0 (std.sub (std.len (Q9 s.pa)) 1)=Q9 (al (i+1)).pa:=by rw[QrR,jH]
      refine⟨qP9,qP,⟨QmM zS,trivial⟩,qPL,qPL2 _ _,qP9,?_,?_,?_,?_,qI jM,(i+1,true),⟨by show 0<=i+1;omega,by show i+1<=n;omega,fun h=>Bool.noConfusion h⟩,by show(n-(i+1)).toNat<(n-i).toNat;omega,[some 0,some 1,some 2],_,rfl,?_⟩
      ·show(0:Int)<=0/\0<=((Q9 s.op).length:Int)-1/\((Q9 s.op).length:Int)-1<=((Q9 s.op).length:Int)
       rw[Q2w];omega
      ·show(0:Int)<=0/\0<=((Q9 s.ct).length:Int)-1/\((Q9 s.ct).length:Int)-1<=((Q9 s.ct).length:Int)
       rw[Q2w];omega
      ·show -9223372036854775808<=((Q9 s.pa).length:Int)-1/\((Q9 s.pa).length:Int)-1<=9223372036854775807
       rw[Q2w];omega
      ·show(0:Int)<=0/\0<=((Q9 s.pa).length:Int)-1/\((Q9 s.pa).length:Int)-1<=((Q9 s.pa).length:Int)
       rw[Q2w];have:=hN.1;omega
      ·exact eq6 eo ep ec ea el eq_
    ·have e1:¬e.do_=1:=fun x=>by
      have h1:(std.int (std.nth (std.cel (std.at_ (Qv ev) i)) 0) == 1)=false:=h1;rw[hD,x]at h1;exact absurd h1 (by decide)
     have e3:¬e.do_=3:=fun x=>by
      have h3:(std.int (std.nth (std.cel (std.at_ (Qv ev) i)) 0) == 3)=false:=h3;rw[hD,x]at h3;exact absurd h3 (by decide)
     rw[if_neg e1,if_neg e3]at jH;have e9:e.kind=9:=by rw[<-hK];exact eq_of_beq h9
     rw[if_pos e9,<-qu]at jH
     have eo:std.app (QqM s.o) [.agg [.slc 1 (Qr4 (Q9 s.pa) (std.int (std.nth (std.cel (std.at_ (Q9 s.ct) (std.sub (std.len (Q9 s.ct)) 1))) 0))),.val (.int .i64 s.at_),.val (.int .i64 (std.add s.at_ (std.len (std.lst (std.nth (std.cel (std.at_ (Qv ev) i)) 2))))),.val (.int .i64 0),.val (.int .i64 0),.val (.bool true),.slc 1 (std.lst (std.nth (std.cel (std.at_ (Qv ev) i)) 2))]]=QqM (al (i+1)).o:=by
      rw[jH,QrG,<-eW,eAt,hBb];rfl
     have ep:Q9 s.op=Q9 (al (i+1)).op:=by rw[jH]
     have ec:std.setx (Q9 s.ct) (std.sub (std.len (Q9 s.ct)) 1) 0 [.val (.int .i64 (std.add (std.int (std.nth (std.cel (std.at_ (Q9 s.ct) (std.sub (std.len (Q9 s.ct)) 1))) 0)) 1))]=Q9 (al (i+1)).ct:=by
      rw[jH,eC]
     have ea:std.add s.at_ (std.len (std.lst (std.nth (std.cel (std.at_ (Qv ev) i)) 2)))=(al (i+1)).at_:=by rw[jH];exact eAt
     have el:s.at_=(al (i+1)).last:=by rw[jH]
     have eqp:Q9 s.pa=Q9 (al (i+1)).pa:=by rw[jH]
     first
      |refine⟨qN,⟨QmM ke,trivial⟩,qAt,cW2,?_,qN,⟨QmM ke,trivial⟩,qC1,qN,qAt,qI jM,(i+1,false),⟨by show 0<=i+1;omega,by show i+1<=n;omega,fun _=>by show(al (i+1)).pa=[];rw[jH];exact pN⟩,by show(n-(i+1)).toNat<(n-i).toNat;omega,[some 0,some 1,some 2],_,rfl,?_⟩
      |refine⟨qN,⟨QmM ke,trivial⟩,qAt,cW2,?_,qN,⟨QmM ke,trivial⟩,qC1,qN,qAt,qI jM,(i+1,true),⟨by show 0<=i+1;omega,by show i+1<=n;omega,fun h=>Bool.noConfusion h⟩,by show(n-(i+1)).toNat<(n-i).toNat;omega,[some 0,some 1,some 2],_,rfl,?_⟩
     ·show(QqM s.o).length+1<=1000000000
      rw[QqV];omega
     ·exact eq6 eo ep ec ea el eqp
    ·have e1:¬e.do_=1:=fun x=>by
      have h1:(std.int (std.nth (std.cel (std.at_ (Qv ev) i)) 0) == 1)=false:=h1;rw[hD,x]at h1;exact absurd h1 (by decide)
     have e3:¬e.do_=3:=fun x=>by
      have h3:(std.int (std.nth (std.cel (std.at_ (Qv ev) i)) 0) == 3)=false:=h3;rw[hD,x]at h3;exact absurd h3 (by decide)
     rw[if_neg e1,if_neg e3]at jH
     have e9:¬e.kind=9:=fun x=>by
      have h9:(std.int (std.nth (std.cel (std.at_ (Qv ev) i)) 1) == 9)=false:=h9;rw[hK,x]at h9;exact absurd h9 (by decide)
     rw[if_neg e9]at jH
     have ye:s.op.length≠0:=fun e=>by
      have ho:0<((Q9 s.op).length:Int):=of_decide_eq_true ho;rw[Q2w,e]at ho;omega
     have gO:s.op≠[]:=fun e=>ye (by rw[e];rfl)
     have zS:=Qrq ye;obtain⟨pl,vv⟩:=exq (s.op.getLast?.getD 0);rw[<-vv]at zS;have cM:=Ql3 zS
     have yU:0<=pl/\pl<s.o.length:=by
      cases hg:s.op.getLast? with
      |none=>exact absurd (congrArg List.length (getLast?_eq_none_iff.1 hg)) ye
      |some y =>
       rw[hg]at vv;rw[vv];exact hA.opr y (mem_of_getLast? hg)
     have hopl:=hA.op
     have qP:(std.inb (std.sub (std.len (Q9 s.op)) 1) (std.len (Q9 s.op))).q:=by
      show 0<=((Q9 s.op).length:Int)-1/\((Q9 s.op).length:Int)-1<((Q9 s.op).length:Int);rw[Q2w];omega
     have qP9:(std.inR .i64 (std.sub (std.len (Q9 s.op)) 1)).q:=by
      show -9223372036854775808<=((Q9 s.op).length:Int)-1/\((Q9 s.op).length:Int)-1<=9223372036854775807;rw[Q2w];omega
     have qPL:(std.inb (std.int (std.nth (std.cel (std.at_ (Q9 s.op) (std.sub (std.len (Q9 s.op)) 1))) 0)) (std.len (QqM s.o))).q:=by
      rw[cM];show 0<=pl/\pl<((QqM s.o).length:Int);rw[QqV];exact yU
     have qPL2:∀off v,(std.inb (std.int (std.nth (std.cel (std.at_ (Q9 s.op) (std.sub (std.len (Q9 s.op)) 1))) 0)) (std.len (std.setx (QqM s.o) (std.int (std.nth (std.cel (std.at_ (Q9 s.op) (std.sub (std.len (Q9 s.op)) 1))) 0)) off v))).q:=fun off v=>by
      rw[cM];show 0<=pl/\pl<((Qr8 (QqM s.o) pl.toNat off v).length:Int);rw[Qr0,QqV];exact yU
     have zv:=Qts yU.1 yU.2;rw[<-cM]at zv;refine⟨qP9,qP,⟨QmM zS,trivial⟩,qPL,⟨QmM zv,trivial⟩,fun hi=>?_,fun hi=>?_⟩
     ·have hi:(s.o[pl.toNat]?.getD default).inn<0:=by
       have hi:std.int (std.nth (std.drp (std.cel (std.at_ (QqM s.o) (std.int (std.nth (std.cel (std.at_ (Q9 s.op) (std.sub (std.len (Q9 s.op)) 1))) 0)))) 3) 0)<0:=of_decide_eq_true hi;rw[Ql3 zv,cM]at hi;exact hi
      rw[if_pos ⟨gO,by rw[<-vv];exact hi⟩,<-vv]at jH
      have eo:std.setx (std.setx (QqM s.o) (std.int (std.nth (std.cel (std.at_ (Q9 s.op) (std.sub (std.len (Q9 s.op)) 1))) 0)) 3 [.val (.int .i64 (std.add s.at_ (std.len (std.lst (std.nth (std.cel (std.at_ (Qv ev) i)) 2)))))]) (std.int (std.nth (std.cel (std.at_ (Q9 s.op) (std.sub (std.len (Q9 s.op)) 1))) 0)) 6 [.slc 1 (std.lst (std.nth (std.cel (std.at_ (Qv ev) i)) 2))]=QqM (al (i+1)).o:=by
       rw[cM,eAt,hBb,Qrl s.o pl 3 _ (fun x=>{ x with inn:=s.at_+(bb.length:Int) }) (fun x=>rfl) yU.1 yU.2,Qrl _ pl 6 _ (fun x=>{ x with tag:=some bb }) (fun x=>rfl) yU.1 (by rw[List.length_modify];exact yU.2),List.modify_modify_eq,jH];rfl
      have ep:Q9 s.op=Q9 (al (i+1)).op:=by rw[jH]
      have ec:Q9 s.ct=Q9 (al (i+1)).ct:=by rw[jH]
      have ea:std.add s.at_ (std.len (std.lst (std.nth (std.cel (std.at_ (Qv ev) i)) 2)))=(al (i+1)).at_:=by rw[jH];exact eAt
      have el:s.at_=(al (i+1)).last:=by rw[jH]
      have eqp:Q9 s.pa=Q9 (al (i+1)).pa:=by rw[jH]
      first
       |refine⟨qP9,qP,⟨QmM zS,trivial⟩,qAt,qPL,qP9,qP,⟨QmM zS,trivial⟩,qPL2 _ _,qAt,qI jM,(i+1,false),⟨by show 0<=i+1;omega,by show i+1<=n;omega,fun _=>by show(al (i+1)).pa=[];rw[jH];exact pN⟩,by show(n-(i+1)).toNat<(n-i).toNat;omega,[some 0,some 1,some 2],_,rfl,?_⟩
       |refine⟨qP9,qP,⟨QmM zS,trivial⟩,qAt,qPL,qP9,qP,⟨QmM zS,trivial⟩,qPL2 _ _,qAt,qI jM,(i+1,true),⟨by show 0<=i+1;omega,by show i+1<=n;omega,fun h=>Bool.noConfusion h⟩,by show(n-(i+1)).toNat<(n-i).toNat;omega,[some 0,some 1,some 2],_,rfl,?_⟩
      exact eq6 eo ep ec ea el eqp
     ·have hi:¬(s.o[pl.toNat]?.getD default).inn<0:=by
       have hi:¬std.int (std.nth (std.drp (std.cel (std.at_ (QqM s.o) (std.int (std.nth (std.cel (std.at_ (Q9 s.op) (std.sub (std.len (Q9 s.op)) 1))) 0)))) 3) 0)<0:=of_decide_eq_false hi;rw[Ql3 zv,cM]at hi;exact hi
      rw[if_neg (fun h=>hi (by rw[vv];exact h.2))]at jH
      have eo:QqM s.o=QqM (al (i+1)).o:=by rw[jH]
      have ep:Q9 s.op=Q9 (al (i+1)).op:=by rw[jH]
      have ec:Q9 s.ct=Q9 (al (i+1)).ct:=by rw[jH]
      have ea:std.add s.at_ (std.len (std.lst (std.nth (std.cel (std.at_ (Qv ev) i)) 2)))=(al (i+1)).at_:=by rw[jH];exact eAt
      have el:s.at_=(al (i+1)).last:=by rw[jH]
      have eqp:Q9 s.pa=Q9 (al (i+1)).pa:=by rw[jH]
      first
       |refine⟨qAt,qI jM,(i+1,false),⟨by show 0<=i+1;omega,by show i+1<=n;omega,fun _=>by show(al (i+1)).pa=[];rw[jH];exact pN⟩,by show(n-(i+1)).toNat<(n-i).toNat;omega,[some 0,some 1,some 2],_,rfl,?_⟩
       |refine⟨qAt,qI jM,(i+1,true),⟨by show 0<=i+1;omega,by show i+1<=n;omega,fun h=>Bool.noConfusion h⟩,by show(n-(i+1)).toNat<(n-i).toNat;omega,[some 0,some 1,some 2],_,rfl,?_⟩
      exact eq6 eo ep ec ea el eqp
    ·have e1:¬e.do_=1:=fun x=>by
      have h1:(std.int (std.nth (std.cel (std.at_ (Qv ev) i)) 0) == 1)=false:=h1;rw[hD,x]at h1;exact absurd h1 (by decide)
     have e3:¬e.do_=3:=fun x=>by
      have h3:(std.int (std.nth (std.cel (std.at_ (Qv ev) i)) 0) == 3)=false:=h3;rw[hD,x]at h3;exact absurd h3 (by decide)
     rw[if_neg e1,if_neg e3]at jH
     have e9:¬e.kind=9:=fun x=>by
      have h9:(std.int (std.nth (std.cel (std.at_ (Qv ev) i)) 1) == 9)=false:=h9;rw[hK,x]at h9;exact absurd h9 (by decide)
     rw[if_neg e9]at jH
     have gO:s.op=[]:=by
      have ho:¬0<((Q9 s.op).length:Int):=of_decide_eq_false ho;rw[Q2w]at ho;exact List.eq_nil_of_length_eq_zero (by omega)
     rw[if_neg (fun h=>h.1 gO)]at jH
     have eo:QqM s.o=QqM (al (i+1)).o:=by rw[jH]
     have ep:Q9 s.op=Q9 (al (i+1)).op:=by rw[jH]
     have ec:Q9 s.ct=Q9 (al (i+1)).ct:=by rw[jH]
     have ea:std.add s.at_ (std.len (std.lst (std.nth (std.cel (std.at_ (Qv ev) i)) 2)))=(al (i+1)).at_:=by rw[jH];exact eAt
     have el:s.at_=(al (i+1)).last:=by rw[jH]
     have eqp:Q9 s.pa=Q9 (al (i+1)).pa:=by rw[jH]
     first
      |refine⟨qAt,qI jM,(i+1,false),⟨by show 0<=i+1;omega,by show i+1<=n;omega,fun _=>by show(al (i+1)).pa=[];rw[jH];exact pN⟩,by show(n-(i+1)).toNat<(n-i).toNat;omega,[some 0,some 1,some 2],_,rfl,?_⟩
      |refine⟨qAt,qI jM,(i+1,true),⟨by show 0<=i+1;omega,by show i+1<=n;omega,fun h=>Bool.noConfusion h⟩,by show(n-(i+1)).toNat<(n-i).toNat;omega,[some 0,some 1,some 2],_,rfl,?_⟩
     exact eq6 eo ep ec ea el eqp
   ·have jM:i=n:=by
     have h:¬i<n:=of_decide_eq_false h;omega
    subst jM;rw[if_pos trivial];with_reducible refine cv7 (Qv ev) (QqM s.o) (Q9 s.op) (Q9 s.ct) (Q9 s.pa) s.at_ s.last ?_
    rw[<-hs];exact .pure rfl (.inl rfl)
end
def Qrw(l:List Node)(n:Int)(p:List Int)(f:Int):El :=
 if Q1f l n=9 then⟨p,f,f+(pr l n).length,0,0,true,some (pr l n)⟩
 else⟨p,f,f+(pr l n).length,f+(pr l ((Qn l n).kids.head?.getD 0)).length,f+(pr l n).length-(pr l ((Qn l n).kids.getLast?.getD 0)).length,false,some (pr l ((Qn l n).kids.head?.getD 0))⟩
theorem Qro(l:List Node)(n:Int)(p:List Int)(f:Int):(Qrw l n p f).path=p:=by unfold Qrw;split<;>rfl
def QuF(g:Int->List Int->Int->List El):Prop:=∀n p f,∀e∈g n p f,∃s,e.path=p++s
theorem Qrh{g:Int->List Int->Int->List El}{l:List Node}(hg:QuF g):∀(ks:List Int)(p:List Int)(i f:Int),∀e∈Qrg g l ks p i f,∃j s,i<=j/\e.path=p++j::s
 | [],_,_,_,e,h=>by cases h
 |k::r,p,i,f,e,h=>by
  rw[Qrg]at h;rcases mem_append.1 h with h|h
  ·obtain⟨s,hs⟩:=hg _ _ _ e h
   exact⟨i,s,le_refl i,by rw[hs,append_assoc];rfl⟩
  ·obtain⟨j,s,h1,h2⟩:=Qrh hg r p _ _ e h
   refine⟨j,s,?_,h2⟩;split at h1<;>omega
theorem Qru(l:List Node):∀m,QuF (elF l m)
 |0,_,_,_,e,h=>by cases h
 |m+1,n,p,f,e,h=>by
  rw[elF]at h;split at h
  ·obtain rfl:=mem_singleton.1 h
   exact⟨[],by simp⟩
  ·split at h
   ·rcases List.mem_cons.1 h with rfl|h
    ·exact⟨[],by simp⟩
    ·obtain⟨j,s,_,h2⟩:=Qrh (Qru l m) _ _ _ _ e h
     exact⟨j::s,h2⟩
   ·cases h
def QqS(o:List El)(p:List Int):Option El:=o.find? fun e=>decide (e.path=p)
theorem Qr2{o:List El}{p:List Int}(h:∀e∈o,e.path≠p):QqS o p=none :=
 List.find?_eq_none.2 fun e he=>by simpa using h e he
theorem Qs9(a b:List El)(p:List Int):QqS (a++b) p=(QqS a p).or (QqS b p):=List.find?_append
theorem QqU(l:List Node):∀r,QqO l none r=none
 | []=>rfl
 |_::_=>rfl
theorem QtZ{l:List Node}{n:Int}(h:¬QqN l n=true)(m:Nat)(p:List Int)(f:Int):elF l m n p f=[]:=by
 have h1:Q1f l n≠21/\Q1f l n≠9:=by simpa[QqN]using h
 cases m with
 |zero=>rfl
 |succ m=>rw[elF,if_neg h1.2,if_neg h1.1]
theorem Qs5(l:List Node)(a:List Int)(k:Int):Q1Z l (a++[k])=Q1Z l a+Q1c l k:=by simp[Q1Z]
def Qua(l:List Node)(m:Nat)(c:Cur):Prop:=∀p r,QqS (elF l m c.n p c.f) (p++r)=(QqO l (some c) r).map fun c'=>Qrw l c'.n (p++r) c'.f
theorem Qsk{l:List Node}{m:Nat}{c:Cur}(IH:∀k:Int,0<=k->k<(Qg l c).length->QqN l (Q34 l c k).n=true->Qua l m (Q34 l c k))
  (hw:∀k∈Qg l c,((pr l k).length:Int)=Q1c l k) (p:List Int) (x:Int) (r:List Int) :
  ∀(ks pre:List Int)(k:Nat)(i f:Int),Qg l c=pre++ks->pre.length=k->f=c.f+Q1Z l pre->i<=x ->
   QqS (Qrg (elF l m) l ks p i f) (p++x::r)=(QqO l ((QqT l ks (x-i) (k:Int)).map (Q34 l c)) r).map fun c'=>Qrw l c'.n (p++x::r) c'.f
 | [],_,_,_,_,_,_,_,_=>by
  rw[Qrg,QqT,Option.map_none,QqU];rfl
 |y::ks,pre,k,i,f,hk,hp,hf,hi=>by
  have hd:Q34 l c (k:Int)=.kid y f k c:=by
   have e1:(Qg l c)[k]?=some y:=by rw[hk,List.getElem?_append_right (by omega),hp,Nat.sub_self];rfl
   have e2:(Qg l c).take k=pre:=by rw[hk,<-hp];simp
   rw[Q34,toNat_natCast,e1,e2,hf];rfl
  have cy:=hw y (by rw[hk];simp)
  have j8:=Qsk IH hw p x r ks (pre++[y]) (k+1) (if QqN l y=true then i+1 else i) (f+(pr l y).length) (by rw[hk];simp) (by simp[hp]) (by rw[Qs5,cy,hf];omega)
  rw[Qrg,Qs9];by_cases hy:QqN l y=true
  ·rw[QqT,if_pos hy]
   rw[if_pos hy]at j8 ⊢;by_cases hx:x=i
   ·subst hx
    rw[if_pos (by omega),Option.map_some,hd]
    have hB:QqS (Qrg (elF l m) l ks p (x+1) (f+(pr l y).length)) (p++x::r)=none:=Qr2 fun e he h=>by
     obtain⟨j,s,h1,h2⟩:=Qrh (Qru l m) _ _ _ _ e he;rw[h]at h2;have:=List.append_cancel_left h2
     injection this with h3 _
     omega
    have hA:=IH k (by omega) (by rw[hk];simp;omega) (by rw[hd];exact hy) (p++[x]) r
    rw[hd]at hA;have e:p++[x]++r=p++x::r:=by simp
    rw[e]at hA;have hA:QqS (elF l m y (p++[x]) f) (p++x::r)=_:=hA;rw[hB,hA,Option.or_none]
   ·rw[if_neg (by omega)]
    have hA:QqS (elF l m y (p++[i]) f) (p++x::r)=none:=Qr2 fun e he h=>by
     obtain⟨s,h2⟩:=Qru l m _ _ _ e he;rw[h,append_assoc]at h2;have:=List.append_cancel_left h2
     injection this with h3 _
     exact hx h3
    rw[hA,none_or,j8 (by omega),show x-(i+1)=x-i-1 by omega,show((k+1:Nat):Int)=(k:Int)+1 by omega]
  ·rw[QqT,if_neg hy,QtZ hy]
   rw[if_neg hy]at j8 ⊢;rw[show QqS [] (p++x::r)=none from rfl,none_or,j8 hi,show((k+1:Nat):Int)=(k:Int)+1 by omega]
theorem Qs2(p:List Int)(x:Int)(r:List Int):p≠p++x::r:=fun h=>by
 have:=congrArg List.length h
 simp at this
theorem Qs6{l:List Node}(ha:Ar l)(qg:∀n,Q1f l n=9->(Qn l n).kids=[]):∀(m:Nat)(c:Cur),0<=c.n->c.n<l.length->c.n.toNat<m->QqN l c.n=true->Qua l m c
 |0,_,_,_,h,_=>by omega
 |m+1,c,h0,h1,hm,he=>by
  intro p r;by_cases h9:Q1f l c.n=9
  ·have e:elF l (m+1) c.n p c.f=[Qrw l c.n p c.f]:=by rw[elF,if_pos h9,Qrw,if_pos h9]
   rw[e];cases r with
   |nil=>simp[QqS,QqO,Qro]
   |cons x r =>
    have hs:QqQ l c x=none:=by rw[QqQ,Qg,qg _ h9];rfl
    rw[Qr2 (fun e he h=>by rw[mem_singleton.1 he,Qro]at h;exact Qs2 _ _ _ h),QqO,hs,QqU]
    split<;>rfl
  ·have hk:Q1f l c.n=21:=by
    have h2:Q1f l c.n=21\/Q1f l c.n=9:=by simpa[QqN]using he
    exact h2.resolve_right h9
   have e:elF l (m+1) c.n p c.f=[Qrw l c.n p c.f]++Qrg (elF l m) l (Qg l c) p 0 c.f:=by rw[elF,if_neg h9,if_pos hk,Qrw,if_neg h9];rfl
   rw[e,Qs9];cases r with
   |nil=>simp[QqS,QqO,Qro]
   |cons x r =>
    rw[Qr2 (o:=[Qrw l c.n p c.f]) (fun e he h=>by rw[mem_singleton.1 he,Qro]at h;exact Qs2 _ _ _ h),none_or,QqO]
    by_cases hx:x<0
    ·rw[if_pos hx,Qr2 (fun e he h=>by
      obtain⟨j,s,h1,h2⟩:=Qrh (Qru l m) _ _ _ _ e he;rw[h]at h2;have:=List.append_cancel_left h2
      injection this with h3 _
      omega)]
     rfl
    ·rw[if_neg hx]
     have jd:∀k∈Qg l c,0<=k/\k<c.n:=ha.wf c.n h0 h1
     have:=Qsk (m:=m) (c:=c) (fun k qO jU jc=>by
      have gW:(Q34 l c k).n∈Qg l c:=by
       have yA:k.toNat<(Qg l c).length:=by omega
       show(Qg l c)[k.toNat]?.getD 0∈_
       rw[getElem?_eq_getElem yA];exact getElem_mem yA
      have h3:=jd _ gW;exact Qs6 ha qg m _ h3.1 (by omega) (by omega) jc) (fun k hk=>(ha.wide k (jd k hk).1 (by have:=jd k hk;omega)).symm) p x r (Qg l c) [] 0 0 c.f rfl rfl (by simp[Q1Z]) (by omega)
     rw[this,Int.sub_zero];rfl
theorem Qtp{l:List Node}(ha:Ar l)(qg:∀n,Q1f l n=9->(Qn l n).kids=[]){n:Int}(h0:0<=n)(h1:n<l.length)(ls:List Int) :
  QqS (Qso l n) (0::ls)=(QqO l (QqQ l (.root n) 0) ls).map fun c'=>Qrw l c'.n (0::ls) c'.f:=by
 have jd:∀k∈Qg l (.root n),0<=k/\k<n:=ha.wf n h0 h1
 have:=Qsk (m:=n.toNat) (c:=.root n) (fun k qO jU jc=>by
  have gW:(Q34 l (.root n) k).n∈Qg l (.root n):=by
   have yA:k.toNat<(Qg l (.root n)).length:=by omega
   show(Qg l (.root n))[k.toNat]?.getD 0∈_
   rw[getElem?_eq_getElem yA];exact getElem_mem yA
  have h3:=jd _ gW;exact Qs6 ha qg _ _ h3.1 (by omega) (by omega) jc) (fun k hk=>(ha.wide k (jd k hk).1 (by have:=jd k hk;omega)).symm) [] 0 ls (Qg l (.root n)) [] 0 0 0 rfl rfl (by simp[Q1Z,Cur.f]) (le_refl 0)
 exact this
theorem Qtv{l:List Node}{n:Int}:∀e∈Qso l n,∃j s,0<=j/\e.path=j::s:=fun e he=>Qrh (Qru l _) _ [] _ _ e he
section
open Tryz
def QsC:El:=⟨[],0,0,0,0,false,none⟩
def elR(x:El):List AV:=[.slc 1 (Q9 x.path),.val (.int .i64 x.fr),.val (.int .i64 x.to),.val (.int .i64 x.inn),.val (.int .i64 x.out),.val (.bool x.emp),.slc 1 (Q2 (x.tag.getD []))]
def Qux(L:List AV)(sb:Bool):Nat->List AV->List Ob->Option (AV×List Ob):=fun f args _=>match f,args with
 |28,[.ref _]=>some (.slc 7 L,[])
 |26,[.slc 1 _,.slc 1 _]=>some (.val (.bool sb),[])
 |_,_=>none
theorem QsE{L:List El}{q:List Int}{i:Nat}(h:i<L.length):QqS (L.drop i) q=if L[i].path=q then some L[i]else QqS (L.drop (i+1)) q:=by
 rw[List.drop_eq_getElem_cons h,QqS,List.find?_cons];by_cases e:L[i].path=q
 ·rw[if_pos e];simp[e]
 ·rw[if_neg e];simp[e,QqS]
theorem Qt8(c0 c1 c2 c3 c4 c5 c6 c7:AV)(L:List El)(cA:BCall prog 28 [.ref [c0,c1,c2,c3,c4,c5,c6,c7]] [] (.slc 7 (QqM L)) [])
  (hL:L.length<=1000000) (hp:∀x∈L,x.path.length<=1000000/\x.path≠[]) (ls:List Int) (vk:ls.length<=1000000) :
  BCall prog 17 [.ref [c0,c1,c2,c3,c4,c5,c6,c7],.slc 1 (Q9 ls)] [] (.tup [.agg (elR ((QqS L (0::ls)).getD QsC)),.val (.bool (QqS L (0::ls)).isSome)]) []:=by
 obtain⟨n,hn⟩:=QE L;have jE:std.len (QqM L)=n:=by show((QqM L).length:Int)=n;rw[QqV,hn.eq]
 have js:0<=n/\n<=1000000:=by rw[hn.eq];omega
 obtain⟨R,hR⟩:=exq (QqS L (0::ls));rw[<-hR];obtain⟨X,hX⟩:=exq (fun i=>L[i.toNat]?.getD QsC:Int->El)
 have hfd:∀i:Int,0<=i->i<n->QqS (L.drop i.toNat) (0::ls)=if(X i).path=0::ls then some (X i)else QqS (L.drop (i+1).toNat) (0::ls):=fun i h0 h1=>by
  have hk:i.toNat<L.length:=by have:=hn.eq;omega
  rw[QsE hk,hX,show(i+1).toNat=i.toNat+1 by omega]
  simp only[getElem?_eq_getElem hk,getD_some]
 have hXp:∀i:Int,0<=i->i<n->(X i).path.length<=1000000/\(X i).path≠[]:=fun i h0 h1=>by
  have hk:i.toNat<L.length:=by have:=hn.eq;omega
  rw[hX];simp only[getElem?_eq_getElem hk,getD_some];exact hp _ (getElem_mem hk)
 have jV:∀i:Int,0<=i->i<n->std.at_ (QqM L) i=(X i).av:=fun i h0 h1=>by
  have hk:i.toNat<L.length:=by have:=hn.eq;omega
  show(QqM L).getD i.toNat .dead=_
  rw[getD_eq_getElem?_getD,QqM,getElem?_map,getElem?_eq_getElem hk,hX];simp only[getElem?_eq_getElem hk,getD_some];rfl
 have qR:QqS (L.drop n.toNat) (0::ls)=none:=by
  rw[List.drop_eq_nil_of_le (by have:=hn.eq;omega)];rfl
 have jI:QqS (L.drop (0:Int).toNat) (0::ls)=R:=by rw[hR];rfl
 clear hX hR hp;refine fnN (Qux (QqM L) false) func17 rfl fun _ _=>?_
 with_reducible refine cv2 (QqM L) (Q9 ls) ?_
 refine⟨cA,?_⟩;refine Q46 (cs:=(fun i:Int=>Qux (QqM L) (decide ((X i).path.tail=ls)))) (ord:=fun _=>.nil) Q6k (by kernel_rfl) (by kernel_rfl) (by kernel_rfl) (X:=Int) (fun i=>⟨[(1,.slc 1 (Q9 ls)),(4,.box 0 0),(9,.slc 7 (QqM L)),(10,.val (.int .i64 n)),(11,.val (.int .i64 i))],[.box [.val (.slice none 0 0),.val (.int .i64 0),.val (.int .i64 0),.val (.int .i64 0),.val (.int .i64 0),.val (.bool false),.val (.slice none 0 0)]]⟩) (fun i=>0<=i/\i<=n/\QqS (L.drop i.toNat) (0::ls)=R) (fun i=>(n-i).toNat) 0 ?_ ?_ ?_
 ·exact⟨le_refl 0,js.1,jI⟩
 ·refine⟨[some 0],_,rfl,?_⟩
  exact eq1 jE
 ·rintro i ⟨jK,qi,hi⟩
  have jK:0<=i:=jK;have qi:i<=n:=qi;have hi:QqS (L.drop i.toNat) (0::ls)=R:=hi;obtain⟨sb,vK⟩:=exq (decide ((X i).path.tail=ls));rw[<-vK];with_reducible refine cv2 (QqM L) (Q9 ls) ?_
  refine⟨fun h=>?_,fun h=>?_⟩
  ·have jM:i<n:=of_decide_eq_true h
   have ha:=jV i jK jM;have hxp:=hXp i jK jM;have hf:=hfd i jK jM;rw[hi]at hf;obtain⟨x,hx⟩:=exq (X i);rw[<-hx]at ha hxp hf vK
   have xX:(std.all [std.hasL 1 (std.nth (std.cel (std.at_ (QqM L) i)) 0),std.hasI .i64 (std.nth (std.cel (std.at_ (QqM L) i)) 1),std.hasI .i64 (std.nth (std.cel (std.at_ (QqM L) i)) 2),std.hasI .i64 (std.nth (std.cel (std.at_ (QqM L) i)) 3),std.hasI .i64 (std.nth (std.cel (std.at_ (QqM L) i)) 4),std.hasB (std.nth (std.cel (std.at_ (QqM L) i)) 5),std.hasL 1 (std.nth (std.cel (std.at_ (QqM L) i)) 6)]).q:=by
    rw[ha];refine⟨.inl rfl,rfl,rfl,rfl,rfl,rfl,?_,trivial⟩;show(std.hasL 1 (QtI x.tag)).q
    unfold QtI;split
    ·exact .inl rfl
    ·exact .inr rfl
   have e0:std.lst (std.nth (std.cel (std.at_ (QqM L) i)) 0)=Q9 x.path:=by rw[ha];rfl
   have e1:std.int (std.nth (std.cel (std.at_ (QqM L) i)) 1)=x.fr:=by rw[ha];rfl
   have e2:std.int (std.nth (std.cel (std.at_ (QqM L) i)) 2)=x.to:=by rw[ha];rfl
   have e3:std.int (std.nth (std.cel (std.at_ (QqM L) i)) 3)=x.inn:=by rw[ha];rfl
   have e4:std.int (std.nth (std.cel (std.at_ (QqM L) i)) 4)=x.out:=by rw[ha];rfl
   have e5:std.boo (std.nth (std.cel (std.at_ (QqM L) i)) 5)=x.emp:=by rw[ha];rfl
   have e6:std.lst (std.nth (std.cel (std.at_ (QqM L) i)) 6)=Q2 (x.tag.getD []):=by
    rw[ha];show Q2x (QtI x.tag)=_;unfold QtI;cases x.tag<;>rfl
   obtain⟨p0,ps,hP⟩:∃p0 ps,x.path=p0::ps:=by
    cases hq:x.path with
    |nil=>exact absurd hq hxp.2
    |cons a b=>exact⟨a,b,rfl⟩
   rw[hP]at e0 vK hf hxp;have jz:=hxp.1;rw[List.length_cons]at jz;have vK:sb=decide (ps=ls):=vK
   have el:std.len (std.lst (std.nth (std.cel (std.at_ (QqM L) i)) 0))=(ps.length:Int)+1:=by
    rw[e0];show((Q9 (p0::ps)).length:Int)=_
    rw[Q2w,List.length_cons];omega
   have q0:(std.inb 0 (std.len (std.lst (std.nth (std.cel (std.at_ (QqM L) i)) 0)))).q:=by
    rw[el];show(0:Int)<=0/\0<(ps.length:Int)+1
    omega
   have q1:(std.cutok 1 (std.len (std.lst (std.nth (std.cel (std.at_ (QqM L) i)) 0))) (std.len (std.lst (std.nth (std.cel (std.at_ (QqM L) i)) 0)))).q:=by
    rw[el];show(0:Int)<=1/\(1:Int)<=(ps.length:Int)+1/\(ps.length:Int)+1<=(ps.length:Int)+1
    omega
   have eh:std.nth (std.cel (std.at_ (std.lst (std.nth (std.cel (std.at_ (QqM L) i)) 0)) 0)) 0=.val (.int .i64 p0):=by rw[e0];rfl
   have ec:std.cut (std.lst (std.nth (std.cel (std.at_ (QqM L) i)) 0)) 1 (std.len (std.lst (std.nth (std.cel (std.at_ (QqM L) i)) 0)))=Q9 ps:=by
    rw[el,e0];show List.take ((ps.length:Int)+1-1).toNat (List.drop (1:Int).toNat (Q9 (p0::ps)))=_;rw[show((ps.length:Int)+1-1).toNat=(Q9 ps).length by rw[Q2w];omega]
    exact List.take_length
   have cS:=Qtl ps ls (by omega) vk
   rw[<-vK]at cS;have cS2:BCall prog 26 [.slc 1 (std.cut (std.lst (std.nth (std.cel (std.at_ (QqM L) i)) 0)) 1 (std.len (std.lst (std.nth (std.cel (std.at_ (QqM L) i)) 0)))),.slc 1 (Q9 ls)] [] (.val (.bool sb)) []:=by rw[ec];exact cS
   refine⟨⟨jK,by show i<std.len (QqM L);rw[jE];exact jM⟩,xX,q0,⟨QmM eh,trivial⟩,fun h1=>⟨q1,cS2,fun h2=>?_,fun h2=>⟨?_,i+1,⟨by omega,by omega,?_⟩,by omega,[some 0],_,rfl,?_⟩⟩,fun h1=>⟨?_,i+1,⟨by omega,by omega,?_⟩,by omega,[some 0],_,rfl,?_⟩⟩
   ·have h1:p0=0:=by
     have h1:(std.int (std.nth (std.cel (std.at_ (std.lst (std.nth (std.cel (std.at_ (QqM L) i)) 0)) 0)) 0) == 0)=true:=h1;rw[Ql3 eh]at h1;exact eq_of_beq h1
    have h2:ps=ls:=by rw[vK]at h2;exact of_decide_eq_true h2
    rw[if_pos (by rw[h1,h2])]at hf
    rw[hf];with_reducible refine cv2 (QqM L) (Q9 ls) ?_
    have hxR:(some x).getD QsC=x:=rfl;rw[hxR];exact .pure rfl ⟨⟨.inl (gA (e0.trans (by rw[hP]))),.inl (gI e1),.inl (gI e2),.inl (gI e3),.inl (gI e4),.inl (gB e5),.inl (gA e6),trivial⟩,.inl rfl,trivial⟩
   ·show std.inR .i64 (i+1)
    rw[Qhr];omega
   ·have h2:¬ps=ls:=by rw[vK]at h2;exact of_decide_eq_false h2
    rw[if_neg (fun e=>h2 (List.cons.inj e).2)]at hf
    exact hf.symm
   ·exact eq0
   ·show std.inR .i64 (i+1)
    rw[Qhr];omega
   ·have h1:¬p0=0:=by
     have h1:(std.int (std.nth (std.cel (std.at_ (std.lst (std.nth (std.cel (std.at_ (QqM L) i)) 0)) 0)) 0) == 0)=false:=h1;rw[Ql3 eh]at h1;simpa using h1
    rw[if_neg (fun e=>h1 (List.cons.inj e).1)]at hf
    exact hf.symm
   ·exact eq0
  ·have jM:i=n:=by
    have h:¬i<n:=of_decide_eq_false h;omega
   rw[jM,qR]at hi;rw[if_pos trivial,<-hi];with_reducible refine cv2 (QqM L) (Q9 ls) ?_
   exact .pure rfl ⟨⟨.inr (.inl ⟨rfl,_,rfl⟩),.inl rfl,.inl rfl,.inl rfl,.inl rfl,.inl rfl,.inr (.inl ⟨rfl,_,rfl⟩),trivial⟩,.inl rfl,trivial⟩
def rAt(l:List Int)(i:Int):Int:=l[i.toNat]?.getD 0
theorem Qd4{l:List Int}{k:Nat}(h:k<l.length):rAt l k=l[k]:=by rw[rAt,toNat_natCast,getElem?_eq_getElem h];rfl
theorem Qhy{l:List Int}{q i:Int}(h0:0<=i)(h1:i<l.length):Q2p l q i.toNat=if rAt l i=q then((i+1).toNat,true)else Q2p l q (i+1).toNat:=by
 have h2:i.toNat<l.length:=by omega
 have e:rAt l i=l[i.toNat]:=by rw[rAt,getElem?_eq_getElem h2];rfl
 rw[e];conv=>lhs;rw[Q2p,dif_pos h2]
 rw[show(i+1).toNat=i.toNat+1 by omega]
def QC(l:List Int)(k:Int):Int:=if(Q1a l k.toNat).2=true then((Q1a l k.toNat).1:Nat)else -1
theorem Qih(l:List Int)(hl:l.length<=1000000000)(k:Int)(h0:0<=k)(h1:k<l.length):BCall prog 195 [.slc 1 (Q0 l),.val (.int .i64 k)] [] (.val (.int .i64 (QC l k))) []:=by
 obtain⟨n,hn⟩:=QE l;obtain⟨R,hR⟩:=exq (QC l k:Int);rw[<-hR];have jt:=Qx l;obtain⟨q,hq⟩:=exq (rAt l k)
 have hk:Q1a l k.toNat=Q2p l q (k+1).toNat:=by
  rw[Q1a,getD_eq_getElem?_getD,hq,rAt,show(k+1).toNat=k.toNat+1 by omega]
 rw[QC,hk]at hR;have ak:=QJ (l:=l) h0 (by omega)
 have en:=hn.eq;have jU:k<n:=by omega
 clear hk;refine fnN (cs0) func195 rfl fun _ _=>?_
 with_reducible refine cv1 (Q0 l) ?_
 have jB:=Q15 hn;with_reducible repeat' first|refine aU jB ?_|refine zA ?_ ?_|intro hb
 refine Q1h (cs0) (Int) (fun i=>⟨[(0,.slc 1 (Q0 l)),(1,.val (.int .i64 k)),(5,.val (.int .i64 i))],[]⟩) (fun i=>k+1<=i/\i<=n/\Q2p l q i.toNat=Q2p l q (k+1).toNat) (fun i=>(n-i).toNat) (k+1) ?_ ?_ ?_
 ·exact⟨le_refl _,by show k+1<=n;omega,rfl⟩
 ·exact⟨[],_,rfl,by simp[Qe,lk,std]⟩
 ·rintro i ⟨jK,jM,hi⟩
  have jK:k+1<=i:=jK;have jM:i<=n:=jM;have hi:Q2p l q i.toNat=Q2p l q (k+1).toNat:=hi;rcases Int.lt_or_eq_of_le jM with jA|j6
  ·have ai:=QJ (l:=l) (i:=i) (by omega) (by omega)
   have jI:=Qhy (l:=l) (q:=q) (i:=i) (by omega) (by omega)
   rw[hi]at jI;clear en jB hi;with_reducible refine cv1 (Q0 l) ?_
   have jB:=Q15 hn;have en:=hn.eq;with_reducible repeat' first|refine aU (zA ai <| zA ak <| zA jB <| zA jA jK) ?_|refine zA ?_ ?_|intro hb
   ·have j7:rAt l i=q:=by rw[hq];simpa[std,ai,ak,AV.cells,intOf,rAt]using hb
    have vX:R=i+1:=by rw[hR,jI,if_pos j7,if_pos rfl];show(((i+1).toNat:Nat):Int)=_;omega
    with_reducible refine cv1 (Q0 l) ?_
    refine .pure rfl (.inl ?_);rw[vX];rfl
   ·have j7:¬rAt l i=q:=by rw[hq];simpa[std,ai,ak,AV.cells,intOf,rAt]using hb
    rw[if_neg j7]at jI;exact⟨i+1,⟨by omega,by omega,jI.symm⟩,by omega,[],_,rfl,by simp[Qe,lk,std]⟩
  ·have vo:Q2p l q i.toNat=(l.length,false):=by rw[Q2p,dif_neg (by omega)]
   have vX:R=-1:=by rw[hR,<-hi,vo];rfl
   rw[j6];clear en jB hi vo;with_reducible refine cv1 (Q0 l) ?_
   have jB:=Q15 hn;with_reducible repeat' first|refine aU jB ?_|refine zA ?_ ?_|intro hb
   ·rw[if_pos trivial]
    with_reducible refine cv1 (Q0 l) ?_
    refine .pure rfl (.inl ?_);rw[vX]
def Q1B(kd k t:Int)(w:Bool):AV:=.agg [.val (.int .i64 kd),.val (.int .i64 k),.val (.int .i64 t),.val (.bool w)]
theorem Qk6{l:List Int}{i:Int}(h0:0<=i)(h1:i<l.length):Q2q l i.toNat=if rAt l i=62 then((i+1).toNat,true)else if rAt l i=60 then(i.toNat,false)else Q2q l (i+1).toNat:=by
 have h2:i.toNat<l.length:=by omega
 have e:rAt l i=l[i.toNat]:=by rw[rAt,getElem?_eq_getElem h2];rfl
 rw[e];conv=>lhs;rw[Q2q,dif_pos h2]
 rw[show(i+1).toNat=i.toNat+1 by omega]
theorem Qoz(l:List Int)(hl:l.length<=1000000000)(k:Int)(h0:0<=k)(h1:k+2<=l.length):BCall prog 154 [.slc 1 (Q0 l),.val (.int .i64 k)] [] (Q1B 10 k ((Q3h l k.toNat).2.1:Nat) (Q3h l k.toNat).2.2) []:=by
 obtain⟨n,hn⟩:=QE l;have jt:=Qx l;obtain⟨rt,yI⟩:=exq (((Q2q l (k+2).toNat).1:Nat):Int);obtain⟨rb,vY⟩:=exq ((Q2q l (k+2).toNat).2:Bool)
 have e:Q1B 10 k ((Q3h l k.toNat).2.1:Nat) (Q3h l k.toNat).2.2=Q1B 10 k rt rb:=by
  rw[yI,vY,Q3h,show(k+2).toNat=k.toNat+2 by omega]
 rw[e,Q1B];have en:=hn.eq;have jU:k+2<=n:=by omega
 clear e h1;refine fnN (cs0) func154 rfl fun _ _=>?_
 with_reducible refine cv1 (Q0 l) ?_
 have jB:=Q15 hn;with_reducible repeat' first|refine aU jB ?_|refine zA ?_ ?_|intro hb
 refine Q1h (cs0) (Int) (fun i=>⟨[(0,.slc 1 (Q0 l)),(1,.val (.int .i64 k)),(4,.box 0 0),(5,.val (.int .i64 i))],[.box [.val (.int .i64 0),.val (.int .i64 0),.val (.int .i64 0),.val (.bool false)]]⟩) (fun i=>k+2<=i/\i<=n/\Q2q l i.toNat=Q2q l (k+2).toNat) (fun i=>(n-i).toNat) (k+2) ?_ ?_ ?_
 ·exact⟨le_refl _,jU,rfl⟩
 ·refine⟨[some 0],_,rfl,?_⟩
  exact eq0
 ·rintro i ⟨jK,jM,hi⟩
  have jK:k+2<=i:=jK;have jM:i<=n:=jM;have hi:Q2q l i.toNat=Q2q l (k+2).toNat:=hi;rcases Int.lt_or_eq_of_le jM with jA|j6
  ·have ai:=QJ (l:=l) (i:=i) (by omega) (by omega)
   have jI:=Qk6 (l:=l) (i:=i) (by omega) (by omega)
   rw[hi]at jI;clear en jB hi;with_reducible refine cv1 (Q0 l) ?_
   have jB:=Q15 hn;have en:=hn.eq;with_reducible repeat' first|refine aU (zA ai <| zA jB <| zA jA jK) ?_|refine zA ?_ ?_|intro hb
   ·have j7:rAt l i=62:=by simpa[std,ai,AV.cells,intOf,rAt]using hb
    rw[if_pos j7]at jI;have yb:rt=i+1:=by rw[yI,jI];show(((i+1).toNat:Nat):Int)=_;omega
    have ga:rb=true:=by rw[vY,jI]
    with_reducible refine cv1 (Q0 l) ?_
    exact .pure rfl ⟨.inl rfl,.inl rfl,.inl (by rw[yb];rfl),.inl (by rw[ga]),trivial⟩
   ·rename_i j4
    have jg:¬rAt l i=62:=by simpa[std,ai,AV.cells,intOf,rAt]using j4
    have j7:rAt l i=60:=by simpa[std,ai,AV.cells,intOf,rAt]using hb
    rw[if_neg jg,if_pos j7]at jI;have yb:rt=i:=by rw[yI,jI];show((i.toNat:Nat):Int)=_;omega
    have ga:rb=false:=by rw[vY,jI]
    with_reducible refine cv1 (Q0 l) ?_
    exact .pure rfl ⟨.inl rfl,.inl rfl,.inl (by rw[yb]),.inl (by rw[ga]),trivial⟩
   ·rename_i j4
    have jg:¬rAt l i=62:=by simpa[std,ai,AV.cells,intOf,rAt]using j4
    have j7:¬rAt l i=60:=by simpa[std,ai,AV.cells,intOf,rAt]using hb
    rw[if_neg jg,if_neg j7]at jI;refine⟨i+1,⟨by omega,by omega,jI.symm⟩,by omega,[some 0],_,rfl,?_⟩
    exact eq0
  ·have vo:Q2q l i.toNat=(l.length,false):=by rw[Q2q,dif_neg (by omega)]
   have yb:rt=n:=by rw[yI,<-hi,vo,hn.eq]
   have j7:rb=false:=by rw[vY,<-hi,vo]
   rw[j6];clear en jB hi vo;with_reducible refine cv1 (Q0 l) ?_
   have jB:=Q15 hn;with_reducible repeat' first|refine aU jB ?_|refine zA ?_ ?_|intro hb
   ·rw[if_pos trivial]
    with_reducible refine cv1 (Q0 l) ?_
    exact .pure rfl ⟨.inl rfl,.inl rfl,.inl (by rw[yb];exact congrArg _ (congrArg _ jB)),.inl (by rw[j7]),trivial⟩
def Q6K(l:List Int)(f:Int)(bs:List UInt8):Int:=match Q3Z l f.toNat l.length bs with
 |none=>-1
 |some j=>(j:Int)
def QhS(st:Int->Bool):Nat->List AV->List Ob->Option (AV×List Ob):=fun f args _=>match f,args with
 |151,[.slc 1 _,.val (.int .i64 k),.val (.string _)]=>some (.val (.bool (st k)),[])
 |_,_=>none
def stI(l:List Int)(bs:List UInt8)(k:Int):Bool:=Q6 l k.toNat bs
theorem Qnv(l:List Int)(hl:l.length<=1000000000)(vw:I32 l)(f:Int)(h0:0<=f)(hf:f<=2000000000)(s:ByteArray)(hs:s.size<=1000000000) :
  BCall prog 193 [.slc 1 (Q0 l),.val (.int .i64 f),.val (.int .i64 l.length),.val (.string s)] [] (.val (.int .i64 (Q6K l f s.data.toList))) []:=by
 obtain⟨n,hn⟩:=QE l;have cS:∀k:Int,0<=k->k<=n->BCall prog 151 [.slc 1 (Q0 l),.val (.int .i64 k),.val (.string s)] [] (.val (.bool (stI l s.data.toList k))) []:=fun k k0 k1=>Qc l hl vw k k0 (by have:=hn.eq;omega) s hs
 have jt:=Qx l;have ze:s.data.toList.length=s.size:=by simp
 obtain⟨z,hz⟩:∃z:Int,IsN s.size z:=⟨_,rfl⟩;have jm:0<=z:=by have:=hz.eq;omega
 have qC:z<=1000000000:=by have:=hz.eq;omega
 have jh:std.szS s=z:=hz.eq.symm;obtain⟨R,hR⟩:=exq (Q6K l f s.data.toList:Int);rw[<-hR,<-hn.eq];obtain⟨bs,k7⟩:=exq s.data.toList;rw[<-k7]at ze hR cS;have qD:n<=1000000000:=by have:=hn.eq;omega
 clear k7 vw;refine fnN (QhS (stI l bs)) func193 rfl fun _ _=>?_
 with_reducible refine cv2 (Q0 l) (stI l bs) ?_
 refine Q1h (QhS (stI l bs)) (Int) (fun i=>⟨[(0,.slc 1 (Q0 l)),(2,.val (.int .i64 n)),(3,.val (.string s)),(9,.val (.int .i64 i))],[]⟩) (fun i=>f<=i/\i<=2000000001/\∀j:Nat,f.toNat<=j->j<i.toNat->Q6 l j bs=false) (fun i=>(n+1-i).toNat) f ?_ ?_ ?_
 ·exact⟨le_refl _,by omega,fun j h1 h2=>by omega⟩
 ·refine⟨[],_,rfl,?_⟩
  exact eq0
 ·rintro i ⟨jK,jM,hi⟩
  have jK:f<=i:=jK;have jM:i<=2000000001:=jM;have hi:∀j:Nat,f.toNat<=j->j<i.toNat->Q6 l j bs=false:=hi
  have qR:¬(i<=n/\i+z<=n)->R=-1:=fun h=>by
   have vI:=hn.eq;have jy:=hz.eq;rw[hR,Q6K,Qb0 l f.toNat l.length bs (fun j h1 h2=>hi j h1 (by omega))]
  by_cases vU:i<=n
  ·by_cases yO:i+z<=n
   ·have cSi:=cS i (by omega) (by omega)
    clear qR;with_reducible refine cv2 (Q0 l) (stI l bs) ?_
    have jB:=Q15 hn;have zC:(s.size:Int)=z:=hz.eq.symm;with_reducible repeat' first|refine aU (zA jB <| zA zC <| zA vU <| zA yO jK) ?_|refine zA ?_ ?_|intro hb
    ·have hb:Q6 l i.toNat bs=true:=hb
     have vX:R=i:=by
      have vI:=hn.eq;have jy:=hz.eq;rw[hR,Q6K,Qc7 l f.toNat l.length bs i.toNat (by omega) (by omega) hi hb]
      show((i.toNat:Nat):Int)=i
      omega
     with_reducible refine cv2 (Q0 l) (stI l bs) ?_
     refine .pure rfl (.inl ?_);rw[vX]
    ·have hb:Q6 l i.toNat bs=false:=hb
     refine⟨i+1,⟨by omega,by omega,fun j h1 h2=>?_⟩,by omega,[],_,rfl,?_⟩
     ·by_cases hj:j<i.toNat
      ·exact hi j h1 hj
      ·obtain rfl:j=i.toNat:=by omega
       exact hb
     ·exact eq0
   ·have vX:=qR (fun h=>yO h.2)
    clear qR;with_reducible refine cv2 (Q0 l) (stI l bs) ?_
    have jB:=Q15 hn;have zC:(s.size:Int)=z:=hz.eq.symm;with_reducible repeat' first|refine aU (zA jB <| zA zC <| zA vU <| zA yO jK) ?_|refine zA ?_ ?_|intro hb
    all_goals
     rw[if_pos trivial];with_reducible refine cv2 (Q0 l) (stI l bs) ?_
     refine .pure rfl (.inl ?_);rw[vX]
  ·have vX:=qR (fun h=>vU h.1)
   clear qR;with_reducible refine cv2 (Q0 l) (stI l bs) ?_
   have jB:=Q15 hn;have zC:(s.size:Int)=z:=hz.eq.symm;with_reducible repeat' first|refine aU (zA jB <| zA zC <| zA vU jK) ?_|refine zA ?_ ?_|intro hb
   all_goals
    rw[if_pos trivial];with_reducible refine cv2 (Q0 l) (stI l bs) ?_
    refine .pure rfl (.inl ?_);rw[vX]
def Q3C(l:List Int)(f:Int)(bs:List UInt8):Int:=if Q6K l f bs<0 then(l.length:Int)else Q6K l f bs+(bs.length:Int)
def Q3F(l:List Int)(f:Int)(bs:List UInt8):Bool:=!decide (Q6K l f bs<0)
theorem Q5L(l:List Int)(kd k sk:Nat)(bs:List UInt8)(h:k+sk<=l.length):(Q14 l kd k sk bs).1=kd/\((Q14 l kd k sk bs).2.1:Int)=Q3C l ((k:Int)+sk) bs/\(Q14 l kd k sk bs).2.2=Q3F l ((k:Int)+sk) bs:=by
 unfold Q14 Q3C Q3F Q6K;rw[Nat.min_eq_left h,show((k:Int)+(sk:Int)).toNat=k+sk by omega]
 cases Q3Z l (k+sk) l.length bs with
 |none=>exact⟨rfl,rfl,rfl⟩
 |some j =>
  have:¬((j:Int)<0):=by omega
  simp only[if_neg this,decide_eq_false this];exact⟨trivial,by omega,rfl⟩
def Qpo(R:Int):Nat->List AV->List Ob->Option (AV×List Ob):=fun f args _=>match f,args with
 |193,[.slc 1 _,.val (.int .i64 _),.val (.int .i64 _),.val (.string _)]=>some (.val (.int .i64 R),[])
 |_,_=>none
theorem QkI(l:List Int)(f:Int)(bs:List UInt8):Q6K l f bs<=l.length:=by
 unfold Q6K;cases h:Q3Z l f.toNat l.length bs with
 |none=>show(-1:Int)<=_;omega
 |some j=>have:=(Qek l _ _ bs j h).2;show(j:Int)<=_;omega
theorem Q8v(l:List Int)(hl:l.length<=1000000000)(vw:I32 l)(kd k sk:Int)(h0:0<=k)(h1:0<=sk)(h2:k+sk<=l.length)(s:ByteArray)(hs:s.size<=1000000000) :
  BCall prog 152 [.slc 1 (Q0 l),.val (.int .i64 kd),.val (.int .i64 k),.val (.int .i64 sk),.val (.string s)] [] (Q1B kd k (Q3C l (k+sk) s.data.toList) (Q3F l (k+sk) s.data.toList)) []:=by
 have cF:=Qnv l hl vw (k+sk) (by omega) (by omega) s hs
 have ze:s.data.toList.length=s.size:=by simp
 have hR1:=QkI l (k+sk) s.data.toList;obtain⟨n,hn⟩:=QE l;have jt:=Qx l;rw[<-hn.eq]at cF hR1 h2;obtain⟨z,hz⟩:∃z:Int,IsN s.size z:=⟨_,rfl⟩;have jm:0<=z:=by have:=hz.eq;omega
 have qC:z<=1000000000:=by have:=hz.eq;omega
 obtain⟨R,hR⟩:=exq (Q6K l (k+sk) s.data.toList:Int);have qD:n<=1000000000:=by have:=hn.eq;omega
 have e:Q1B kd k (Q3C l (k+sk) s.data.toList) (Q3F l (k+sk) s.data.toList)=Q1B kd k (if R<0 then n else R+z) (!decide (R<0)):=by
  rw[Q3C,Q3F,<-hR,ze,<-hn.eq,hz.eq]
 rw[e,Q1B];rw[<-hR]at cF hR1;clear e hR ze;obtain⟨T,jY⟩:=exq ((if R<0 then n else R+z));obtain⟨B,hB9⟩:=exq (!decide (R<0));rw[<-jY,<-hB9];obtain⟨fr,vO⟩:=exq (k+sk);rw[<-vO]at cF h2;refine fnN (Qpo R) func152 rfl fun _ _=>?_
 with_reducible refine cv1 (Q0 l) ?_
 have jB:=Q15 hn;have zC:(s.size:Int)=z:=hz.eq.symm
 have cF2:BCall prog 193 [.slc 1 (Q0 l),.val (.int .i64 (std.add k sk)),.val (.int .i64 (std.len (Q0 l))),.val (.string s)] [] (.val (.int .i64 R)) []:=by
  rw[show std.add k sk=fr from vO.symm,show std.len (Q0 l)=n from jB];exact cF
 with_reducible repeat' first|refine aU (zA jB <| zA zC <| zA vO h2) ?_|refine zA ?_ ?_|intro hb
 ·have hb:R<0:=of_decide_eq_true hb
  rw[if_pos hb]at jY;exact .pure rfl ⟨.inl rfl,.inl rfl,.inl (by rw[jY];exact congrArg _ (congrArg _ jB)),.inl (by rw[hB9,decide_eq_true hb];rfl),trivial⟩
 ·have hb:¬R<0:=of_decide_eq_false hb
  show(-9223372036854775808:Int)<=R+s.size/\R+s.size<=(9223372036854775807:Int)
  omega
 ·have hb:¬R<0:=of_decide_eq_false hb
  rw[if_neg hb]at jY;exact .pure rfl ⟨.inl rfl,.inl rfl,.inl (by rw[jY,<-zC];rfl),.inl (by rw[hB9,decide_eq_false hb];rfl),trivial⟩
