/- Lemmas, conditions told -/
import Derived.Test.YtdmbfngenffcaaaGreatQB10
import Derived.Test.YtdmbfngenffcaaaGreatQB09
import Derived.Laws.StructEq
import Derived.Test.YtdmbfngenffcaaaGreatQB01
import Derived.WideShapes
set_option linter.unusedSimpArgs false
set_option linter.unusedVariables false
namespace Go.Proofs.YtdmbfngenffcaaaGreat
open Go.RowKit Go.Lib
theorem coF_old {l : List Node} (h : Wf l) (x : Node) : ∀ (f : Nat) (n : Int), 0 ≤ n → n < l.length → coF (l ++ [x]) f n = coF l f n
  | 0, _, _, _ => rfl
  | f + 1, n, h0, h1 => by
    simp only [coF, nodeAt_old h0 h1]
    congr 2
    refine List.map_congr_left fun k hk => ?_
    have := h n h0 h1 k hk
    exact coF_old h x f k this.1 (by omega)
theorem co_old {l : List Node} (h : Wf l) (x : Node) {n : Int} (h0 : 0 ≤ n) (h1 : n < l.length) : co (l ++ [x]) n = co l n := coF_old h x _ n h0 h1
def coL (l : List Node) (ks : List Int) : Nat := (ks.map (co l)).sum
theorem coL_old {l : List Node} (h : Wf l) (x : Node) {ks : List Int} (hk : InR l ks) : coL (l ++ [x]) ks = coL l ks :=
  congrArg List.sum (List.map_congr_left fun k hk' => co_old h x (hk k hk').1 (hk k hk').2)
theorem co_new {l : List Node} (h : Wf l) {x : Node} (hx : InR l x.kids) : co (l ++ [x]) l.length = 1 + coL l x.kids := by
  rw [co_eq (wf_add h hx) (by omega) (by simp only [List.length_append, List.length_singleton]; omega), nodeAt_new]
  exact congrArg (1 + ·) (coL_old h x hx)
theorem coL_app (l : List Node) (a b : List Int) : coL l (a ++ b) = coL l a + coL l b := by simp [coL]
theorem coL_one (l : List Node) (k : Int) : coL l [k] = co l k := by simp [coL]
def coK (l : List Node) (s : List Opn) : Nat := (s.map fun x => coL l x.kids).sum
theorem coK_app (l : List Node) (s : List Opn) (x : Opn) : coK l (s ++ [x]) = coK l s + coL l x.kids := by simp [coK]
theorem coK_old {l : List Node} (h : Wf l) (x : Node) {s : List Opn} (hs : ∀ y ∈ s, InR l y.kids) : coK (l ++ [x]) s = coK l s :=
  congrArg List.sum (List.map_congr_left fun y hy => coL_old h x (hs y hy))
def CoInv (m : Mk) : Prop := coK m.n m.s ≤ m.n.length
theorem co_push {m : Mk} (h : CoInv m) (nm : List Int) : CoInv { m with s := m.s ++ [⟨nm, []⟩] } := by
  show coK m.n (m.s ++ [⟨nm, []⟩]) ≤ _
  have h : coK m.n m.s ≤ m.n.length := h
  rw [coK_app]
  simpa [coL] using h
theorem co_leafkid {m : Mk} {X : List UInt8} {B D : Nat} (h : MkInv m X B D) (hc : CoInv m) (kind : Int) (bs : List UInt8) : CoInv (kidF m.n.length (addF (leafF kind bs) m)) := by
  obtain ⟨s0, hs0⟩ := top_split h.s1
  generalize topF m.s = y at hs0
  have hr := h.rng
  rw [hs0] at hr
  have hr0 : ∀ z ∈ s0, InR m.n z.kids := fun z hz => hr z (List.mem_append_left _ hz)
  have hry : InR m.n y.kids := hr y (by simp)
  have hx : InR m.n (leafF kind bs).kids := fun k hk => by cases hk
  have hc : coK m.n m.s ≤ m.n.length := hc
  rw [hs0, coK_app] at hc
  show coK (m.n ++ [leafF kind bs]) (kidS m.n.length m.s) ≤ (m.n ++ [leafF kind bs]).length
  rw [hs0, kid_app, coK_app, coL_app, coL_one, coK_old h.ar.wf _ hr0, coL_old h.ar.wf _ hry, co_new h.ar.wf hx]
  have : coL m.n (leafF kind bs).kids = 0 := rfl
  rw [this]
  simp only [List.length_append, List.length_singleton]
  omega
theorem co_shut {m : Mk} {X : List UInt8} {B D : Nat} (h : MkInv m X B D) (hc : CoInv m) (hs : 2 ≤ m.s.length) (kind : Int) (bs : List UInt8) : CoInv (shutF m.n.length (addF (leafF kind bs) m)) := by
  obtain ⟨s1, hs1⟩ := top_split h.s1
  generalize topF m.s = x at hs1
  have hl1 : 1 ≤ s1.length := by rw [hs1] at hs; simp at hs; omega
  obtain ⟨s0, hs0⟩ := top_split hl1
  generalize topF s1 = y at hs0
  subst hs0
  have ha1 := (ar_leaf h.ar kind bs).1
  have hr := h.rng
  rw [hs1] at hr
  have hr0 : ∀ z ∈ s0, InR m.n z.kids := fun z hz => hr z (List.mem_append_left _ (List.mem_append_left _ hz))
  have hry : InR m.n y.kids := hr y (List.mem_append_left _ (by simp))
  have hrx : InR m.n x.kids := hr x (by simp)
  have hx : InR m.n (leafF kind bs).kids := fun k hk => by cases hk
  have hks : InR (m.n ++ [leafF kind bs]) (x.kids ++ [(m.n.length : Int)]) := fun k hk => by
    rcases List.mem_append.1 hk with hk | hk
    · exact hrx.more _ k hk
    · obtain rfl : k = (m.n.length : Int) := by simpa using hk
      simp; omega
  obtain ⟨l1, hl⟩ : ∃ l1, l1 = m.n ++ [leafF kind bs] := ⟨_, rfl⟩
  obtain ⟨z, hz⟩ : ∃ z, z = branchF l1 21 (x.kids ++ [(m.n.length : Int)]) := ⟨_, rfl⟩
  have e1 : coL l1 (x.kids ++ [(m.n.length : Int)]) = coL m.n x.kids + 1 := by
    rw [hl, coL_app, coL_one, coL_old h.ar.wf _ hrx, co_new h.ar.wf hx]; rfl
  have eT : topF (kidF (m.n.length : Int) (addF (leafF kind bs) m)).s = ⟨x.name, x.kids ++ [(m.n.length : Int)]⟩ := by
    show topF (kidS m.n.length m.s) = _
    rw [hs1, kid_app, top_app]
  have en : (shutF m.n.length (addF (leafF kind bs) m)).n = l1 ++ [z] := by
    show (m.n ++ [leafF kind bs]) ++ [branchF (m.n ++ [leafF kind bs]) 21 (topF (kidF (m.n.length : Int) (addF (leafF kind bs) m)).s).kids] = _
    rw [eT, ← hl, ← hz]
  have es : (shutF m.n.length (addF (leafF kind bs) m)).s = s0 ++ [⟨y.name, y.kids ++ [(l1.length : Int)]⟩] := by
    show kidS ((m.n ++ [leafF kind bs]).length : Int) ((kidS m.n.length m.s).take ((kidS m.n.length m.s).length - 1)) = _
    have e2 : (kidS m.n.length m.s).take ((kidS m.n.length m.s).length - 1) = s0 ++ [y] := by
      rw [hs1, kid_app, show (s0 ++ [y] ++ [(⟨x.name, x.kids ++ [(m.n.length : Int)]⟩ : Opn)]).length - 1 = (s0 ++ [y]).length by simp]
      exact List.take_left
    rw [e2, kid_app, hl]
  rw [← hl] at ha1 hks
  have hzk : InR l1 z.kids := by rw [hz]; exact hks
  have hc : coK m.n m.s ≤ m.n.length := hc
  rw [hs1, coK_app, coK_app] at hc
  have up0 : coK (l1 ++ [z]) s0 = coK m.n s0 := by
    rw [coK_old ha1.wf z (fun q hq => by rw [hl]; exact (hr0 q hq).more _), hl, coK_old h.ar.wf _ hr0]
  have upy : coL (l1 ++ [z]) y.kids = coL m.n y.kids := by
    rw [coL_old ha1.wf z (by rw [hl]; exact hry.more _), hl, coL_old h.ar.wf _ hry]
  have hll : l1.length = m.n.length + 1 := by rw [hl]; simp
  show coK (shutF m.n.length (addF (leafF kind bs) m)).n (shutF m.n.length (addF (leafF kind bs) m)).s ≤ (shutF m.n.length (addF (leafF kind bs) m)).n.length
  rw [es, en, coK_app, coL_app, coL_one, up0, upy, co_new ha1.wf hzk]
  have ez : coL l1 z.kids = coL m.n x.kids + 1 := by rw [hz]; exact e1
  rw [ez]
  simp only [List.length_append, List.length_singleton]
  omega
structure MkI (m : Mk) (X : List UInt8) (B D : Nat) : Prop where
  i : MkInv m X B D
  c : CoInv m
section
variable {m : Mk} {X : List UInt8} {B D : Nat}
theorem MkI.lk (h : MkI m X B D) (t : Txt) (b : List UInt8) (kind f u : Int) : MkI (lkF t b kind f u m) (X ++ sliceF t b f u) (B + 1) D := ⟨inv_lk h.i t b kind f u, co_leafkid h.i h.c kind _⟩
theorem MkI.wrong (h : MkI m X B D) (t : Txt) (c f u : Int) : MkI (wrongF t c f u m) X B (D + 1) := ⟨inv_wrong h.i t c f u, h.c⟩
theorem MkI.start (h : MkI m X B D) (t : Txt) (b : List UInt8) (hr : t.r.length ≤ 1000000) (kind f u : Int) : MkI (startF' t b kind f u m) (X ++ sliceF t b f u) (B + 3) (D + 2) := by
  refine ⟨inv_start h.i t b hr kind f u, ?_⟩
  unfold startF'
  split
  · exact ((h.wrong t 5 f u).lk t b kind f u).c
  · exact co_leafkid (inv_push h.i (nameF' t f u) (Nat.le_trans (name_len t f u) hr)) (co_push h.c _) kind _
theorem MkI.miss (h : MkI m X B D) (hs : 2 ≤ m.s.length) (t : Txt) (a : Int) : MkI (missF t a m) X B D := ⟨(inv_miss h.i hs t a).1, co_shut (inv_wrong h.i t 4 a a) h.c hs 22 []⟩
end
theorem MkI.missGo (t : Txt) (f : Int) (k : Nat) {X : List UInt8} {B D : Nat} : ∀ (n : Nat) (m : Mk), MkI m X B D → k + 1 ≤ m.s.length → m.s.length ≤ n + k + 1 → MkI (missGo t f k n m) X B D ∧ (Go.Proofs.YtdmbfngenffcaaaGreat.missGo t f k n m).s.length = k + 1
  | 0, m, h, h1, h2 => ⟨h, by show m.s.length = _; omega⟩
  | n + 1, m, h, h1, h2 => by
    show MkI (if _ then _ else _) X B D ∧ (if _ then _ else _ : Mk).s.length = _
    split
    · have h3 := inv_miss h.i (by omega) t f
      exact MkI.missGo t f k n _ (h.miss (by omega) t f) (by omega) (by omega)
    · exact ⟨h, by omega⟩
section
variable {m : Mk} {X : List UInt8} {B D : Nat}
theorem MkI.end_ (h : MkI m X B D) (t : Txt) (b : List UInt8) (kind f u : Int) : MkI (endF' t b kind f u m) (X ++ sliceF t b f u) (B + 1) (D + 1) := by
  refine ⟨inv_end h.i t b kind f u, ?_⟩
  unfold endF'
  have h1 := h.i.s1
  have h2 := opnFind_le m.s (nameF' t f u) (m.s.length - 1)
  simp only
  split
  · exact ((h.wrong t 3 f u).lk t b kind f u).c
  · obtain ⟨h3, h4⟩ := MkI.missGo t f (opnFind m.s (nameF' t f u) (m.s.length - 1)) m.s.length m h (by omega) (by omega)
    exact co_shut h3.i h3.c (by omega) kind _
theorem MkI.token (h : MkI m X B D) (t : Txt) (b : List UInt8) (hr : t.r.length ≤ 1000000) (kind f u : Int) (wh : Bool) : MkI (tokenF t b kind f u wh m) (X ++ sliceF t b f u) (B + 3) (D + 3) := by
  refine ⟨inv_token h.i t b hr kind f u wh, ?_⟩
  unfold tokenF
  simp only
  generalize hm1 : (if wh = false then wrongF t 1 f u m else if (kind = 8 ∨ kind = 9 ∨ kind = 10) ∧ (readF t.r f u).right = false then wrongF t 2 f u m else m) = m1
  have h1 : ∃ D', MkI m1 X B D' := by
    rw [← hm1]
    split
    · exact ⟨_, h.wrong t 1 f u⟩
    · split
      · exact ⟨_, h.wrong t 2 f u⟩
      · exact ⟨_, h⟩
  obtain ⟨D', h1⟩ := h1
  split
  · exact (h1.start t b hr kind f u).c
  · split
    · exact (h1.end_ t b kind f u).c
    · exact (h1.lk t b kind f u).c
end
end Go.Proofs.YtdmbfngenffcaaaGreat
namespace Go.Proofs.YtdmbfngenffcaaaGreat
open Go.RowKit Go.Lib
end Go.Proofs.YtdmbfngenffcaaaGreat
namespace Go.Proofs.YtdmbfngenffcaaaGreat
open Go.RowKit Go.Lib
theorem at_map {α : Type} (f : α → AV) {l : List α} {i : Int} (h0 : 0 ≤ i) (h1 : i < l.length) (d : α) : std.at_ (l.map f) i = f (l[i.toNat]?.getD d) := by
  show (l.map f).getD i.toNat .dead = _
  rw [List.getD_eq_getElem?_getD]; exact getA f h0 h1 d
theorem rune_cell {l : List Int} {i : Int} (h0 : 0 ≤ i) (h1 : i < l.length) : std.nth (std.cel (std.at_ (runesA l) i)) 0 = .val (.int .i32 (l[i.toNat]?.getD 0)) := by rw [runesA, at_map runeA h0 h1 0]; rfl
theorem byte_cell {l : List UInt8} {i : Int} (h0 : 0 ≤ i) (h1 : i < l.length) : std.nth (std.cel (std.at_ (bytesA l) i)) 0 = byteA (l[i.toNat]?.getD 0) := by rw [bytesA, at_map byteA h0 h1 0]; rfl
theorem has_int {x : AV} {n : Int} {k : IntKind} (h : x = .val (.int k n)) : std.hasI k x := by subst h; rfl
theorem int_of {x : AV} {n : Int} {k : IntKind} (h : x = .val (.int k n)) : std.int x = n := by subst h; rfl
end Go.Proofs.YtdmbfngenffcaaaGreat
namespace Go.Proofs.YtdmbfngenffcaaaGreat
open Go.RowKit Go.Lib
inductive Cur where
  | root (n : Int)
  | kid (n f k : Int) (up : Cur)
  deriving Inhabited
def Cur.n : Cur → Int
  | .root n => n
  | .kid n _ _ _ => n
def Cur.f : Cur → Int
  | .root _ => 0
  | .kid _ f _ _ => f
def Cur.k : Cur → Int
  | .root _ => 0
  | .kid _ _ k _ => k
def upO (N : List AV) : Cur → AV
  | .root _ => .val (.pointer none)
  | .kid _ _ _ up => .ref [.ref [.slc 6 N], .val (.int .i64 up.n), .val (.int .i64 up.f), .val (.int .i64 up.k), .opt (upO N up)]
def Cur.cs (N : List AV) (c : Cur) : List AV := [.ref [.slc 6 N], .val (.int .i64 c.n), .val (.int .i64 c.f), .val (.int .i64 c.k), .opt (upO N c)]
def kidsAt (l : List Node) (c : Cur) : List Int := (nodeAt l c.n).kids
def downC (l : List Node) (c : Cur) (k : Int) : Cur := .kid ((kidsAt l c)[k.toNat]?.getD 0) (c.f + wsum l ((kidsAt l c).take k.toNat)) k c
def toC (l : List Node) : Cur → List Int → Option Cur
  | c, [] => some c
  | c, k :: r => if 0 ≤ k ∧ k < (kidsAt l c).length then toC l (downC l c k) r else none
structure CurOk (l : List Node) (c : Cur) : Prop where
  n : (kidsAt l c).length ≤ 1000000
  s : wsum l (kidsAt l c) ≤ 2147483647
  f0 : 0 ≤ c.f
  f1 : c.f ≤ 2147483647
end Go.Proofs.YtdmbfngenffcaaaGreat
namespace Go.Proofs.YtdmbfngenffcaaaGreat
open Go.RowKit Go.Lib
structure PrOk (l : List Node) (n : Int) : Prop where
  len : l.length ≤ 1000000000
  wf : Wf l
  wide : Wide l
  h0 : 0 ≤ n
  h1 : n < l.length
  p : (pr l n).length ≤ 1000000
  c : co l n ≤ 1000000
end Go.Proofs.YtdmbfngenffcaaaGreat
namespace Go.Proofs.YtdmbfngenffcaaaGreat
open Go.RowKit Go.Lib
end Go.Proofs.YtdmbfngenffcaaaGreat
namespace Go.Proofs.YtdmbfngenffcaaaGreat
open Go.RowKit Go.Lib
end Go.Proofs.YtdmbfngenffcaaaGreat
namespace Go.Proofs.YtdmbfngenffcaaaGreat
open Go.RowKit Go.Lib
section
variable {P : Program} {ty : Tys}
end
end Go.Proofs.YtdmbfngenffcaaaGreat
namespace Go.Proofs.YtdmbfngenffcaaaGreat
open Go.RowKit Go.Lib
def gl (w : World) : Gh := ⟨fun b _ => b < w.heap.size, fun _ => none, fun _ => 0, fun _ => false⟩
theorem mem_law (w : World) : Mem w (gl w) [] :=
  ⟨(fun id cs h => by simp at h), (fun id cs h => by simp at h), (fun id s p h => by simp at h), (fun b id h => by cases h), (fun b o h => ⟨h, fun id h2 => by cases h2⟩), (fun id et sz fz e xs h => by simp at h), (fun b h => by cases h), (fun b b' id h => by cases h)⟩
theorem BCall.law {P : Program} {f : Nat} {vs : List Value} {args : List AV} {res : Value} (h : BCall P f args [] (.val res) []) (w : World) (hL : ARelL w (gl w) [] vs args) :
    Calls P f vs.toArray w fun e w' => e = .returned res ∧ Below w.heap.size w w' :=
  (h.2 w (gl w) vs (mem_law w) hL).mono fun e w' ⟨v, g', k1, k2, k3, k4⟩ => by
    have hv : v = res := ARel.valEq (g := g') (w := w') (ob := []) k3
    subst hv
    exact ⟨k1, k4.os, k4.tape, k4.output, k4.size, fun b hb => k4.keep b hb rfl⟩
theorem argL_nil {w : World} {g : Gh} {ob : List Ob} : ARelL w g ob [] [] := ⟨rfl, fun j v x h => by simp at h⟩
theorem argL_cons {w : World} {g : Gh} {ob : List Ob} {v : Value} {x : AV} {vs : List Value} {xs : List AV} (h : ARel1 w g ob v x) (hr : ARelL w g ob vs xs) : ARelL w g ob (v :: vs) (x :: xs) := by
  refine ⟨by simp [hr.1], fun j u y hu hy => ?_⟩
  cases j with
  | zero =>
    obtain rfl : v = u := by simpa using hu
    obtain rfl : x = y := by simpa using hy
    exact h
  | succ j => exact hr.2 j u y (by simpa using hu) (by simpa using hy)
theorem okWide_spot {P : Program} {W : World} {r : Reach} {base : Nat} {t e : TypeId} {x : Addr} {l c : Nat} (ht : P.underlying t = some (.slice e)) (h : Value.okWide P W r base t (.slice (some x) l c)) : x.spot = none := by
  simp only [Value.okWide, ht, Cell.okWide, Cell.ok] at h
  exact h.2.2.2.1
def IsRowS (k : IntKind) (w : World) (a : Option Addr) (len cap : Nat) (zs : List Int) : Prop :=
  (a = none ∧ len = 0 ∧ cap = 0 ∧ zs = []) ∨
  ∃ x, a = some x ∧ len ≤ cap ∧ cap ≤ maxLen ∧ zs.length = cap ∧ (∀ i, i < zs.length → w.cell? (x.add i) = some (.int k (zs.getD i 0))) ∧ ∀ n ∈ zs, (Lit.int k n).wf = true
theorem arg_ints {k : IntKind} {w : World} {a : Option Addr} {len cap : Nat} {zs : List Int} (h : IsRowS k w a len cap zs) (hs : ∀ x, a = some x → x.spot = none) :
    ARel1 w (gl w) [] (.slice a len cap) (.slc 1 ((zs.take len).map fun n => .val (.int k n))) := by
  have hr := (rd_of_row h).1
  have hl : len = ((zs.take len).map fun n => AV.val (.int k n)).length := by
    rcases h with ⟨_, rfl, _, rfl⟩ | ⟨x, _, h1, _, h2, _⟩
    · rfl
    · simp; omega
  refine rd_slc hr (fun b o hb => hb) hl (fun x hx => by obtain ⟨n, _, rfl⟩ := List.mem_map.1 hx; rfl) (fun x hx => ?_) ?_
  · obtain ⟨b, o, s⟩ := x
    exact ⟨b, o, by rw [show s = none from hs _ hx]⟩
  · have : flatA ((zs.take len).map fun n => AV.val (.int k n)) = ((zs.take len).map (Value.int k)).map .val := by
      generalize zs.take len = l
      induction l with
      | nil => rfl
      | cons n r ih => simp only [List.map_cons, flatA, List.flatMap_cons] at ih ⊢; rw [ih]; rfl
    rw [this]
    refine ⟨by simp, fun j y u hy hu => ?_⟩
    rw [List.getElem?_map, hy] at hu
    obtain rfl : AV.val y = u := by simpa using hu
    obtain ⟨n, _, rfl⟩ := List.mem_map.1 (List.mem_of_getElem? hy)
    exact PRel.val _ rfl
theorem lit_u8 {n : Int} (h : (Lit.int .u8 n).wf = true) : ((UInt8.ofNat n.toNat).toNat : Int) = n := by
  have h : 0 ≤ n ∧ n ≤ 255 := by simpa [Lit.wf, IntKind.min, IntKind.max, IntKind.signed, IntKind.bits] using h
  rw [UInt8.toNat_ofNat']
  omega
theorem arg_bytes {w : World} {a : Option Addr} {len cap : Nat} {zs : List Int} (h : IsRowS .u8 w a len cap zs) (hs : ∀ x, a = some x → x.spot = none) :
    ARel1 w (gl w) [] (.slice a len cap) (.slc 1 (bytesA ((zs.take len).map fun n => UInt8.ofNat n.toNat))) := by
  have h1 := arg_ints h hs
  have h2 := (rd_of_row h).2
  have e : bytesA ((zs.take len).map fun n => UInt8.ofNat n.toNat) = (zs.take len).map fun n => .val (.int .u8 n) := by
    rw [bytesA, List.map_map]
    refine List.map_congr_left fun n hn => ?_
    show AV.val (.int .u8 ((UInt8.ofNat n.toNat).toNat : Int)) = _
    rw [lit_u8 (h2 n hn)]
  rw [e]; exact h1
theorem arg_runes {w : World} {a : Option Addr} {len cap : Nat} {zs : List Int} (h : IsRowS .i32 w a len cap zs) (hs : ∀ x, a = some x → x.spot = none) :
    ARel1 w (gl w) [] (.slice a len cap) (.slc 1 (runesA (zs.take len))) := arg_ints h hs
end Go.Proofs.YtdmbfngenffcaaaGreat
namespace Go.Proofs.YtdmbfngenffcaaaGreat
open Go.RowKit Go.Lib
structure CurIn (l : List Node) (W C : Nat) (c : Cur) : Prop where
  h0 : 0 ≤ c.n
  h1 : c.n < l.length
  f0 : 0 ≤ c.f
  w : c.f + (nodeAt l c.n).width ≤ W
  co : co l c.n ≤ C
theorem coL_len (l : List Node) (ks : List Int) : ks.length ≤ coL l ks := by
  induction ks with
  | nil => exact Nat.zero_le _
  | cons k r ih => have := co_pos l k; simp only [coL, List.map_cons, List.sum_cons, List.length_cons] at ih ⊢; omega
theorem coL_mem (l : List Node) {ks : List Int} {k : Int} (h : k ∈ ks) : co l k ≤ coL l ks := by
  induction ks with
  | nil => cases h
  | cons x r ih =>
    simp only [coL, List.map_cons, List.sum_cons] at ih ⊢
    rcases List.mem_cons.1 h with rfl | h
    · omega
    · have := ih h; omega
section
variable {l : List Node} {W C : Nat} {c : Cur}
theorem CurIn.kids (ha : Ar l) (h : CurIn l W C c) : InR l (kidsAt l c) := fun k hk => by
  have h1 := ha.wf c.n h.h0 h.h1 k hk
  have := h.h1
  omega
theorem CurIn.wide (ha : Ar l) (h : CurIn l W C c) : wsum l (kidsAt l c) ≤ (nodeAt l c.n).width ∧ 0 ≤ (nodeAt l c.n).width := by
  rw [ha.wide c.n h.h0 h.h1, wsum_pr ha.wide (h.kids ha), pr_eq ha.wf h.h0 h.h1, List.length_append]
  show (((kidsAt l c).flatMap (pr l)).length : Int) ≤ (((nodeAt l c.n).b.length + ((kidsAt l c).flatMap (pr l)).length : Nat) : Int) ∧ _
  omega
theorem CurIn.cos (ha : Ar l) (h : CurIn l W C c) : 1 + coL l (kidsAt l c) ≤ C := by
  have := h.co
  rw [co_eq ha.wf h.h0 h.h1] at this
  exact this
theorem CurIn.ok (ha : Ar l) (h : CurIn l W C c) (hW : W ≤ 2147483647) (hC : C ≤ 1000000) : CurOk l c := by
  have h1 := h.wide ha
  have h2 := h.cos ha
  have h3 := coL_len l (kidsAt l c)
  have h4 := h.w
  have h5 := h.f0
  exact ⟨by omega, by omega, h5, by omega⟩
theorem CurIn.down (ha : Ar l) (h : CurIn l W C c) {k : Int} (h0 : 0 ≤ k) (h1 : k < (kidsAt l c).length) : CurIn l W C (downC l c k) := by
  have hk : k.toNat < (kidsAt l c).length := by omega
  have hx : (kidsAt l c)[k.toNat]?.getD 0 = (kidsAt l c)[k.toNat] := by rw [List.getElem?_eq_getElem hk]; rfl
  have hm : (kidsAt l c)[k.toNat] ∈ kidsAt l c := List.getElem_mem hk
  have hr := h.kids ha _ hm
  have hw := h.wide ha
  have hc := h.cos ha
  have hcm := coL_mem l hm
  have hs1 := wsum_pos ha.ok.w ((kidsAt l c).take k.toNat)
  have hs2 := wsum_le ha.ok.w (kidsAt l c) (k.toNat + 1)
  have hs3 : wsum l ((kidsAt l c).take (k.toNat + 1)) = wsum l ((kidsAt l c).take k.toNat) + (nodeAt l (kidsAt l c)[k.toNat]).width := by
    rw [List.take_add_one, List.getElem?_eq_getElem hk]
    show (((kidsAt l c).take k.toNat ++ [(kidsAt l c)[k.toNat]]).map (widthN l)).sum = _
    rw [List.map_append, List.sum_append]
    simp [wsum, widthN]
  have h4 := h.w
  have h5 := h.f0
  refine ⟨?_, ?_, ?_, ?_, ?_⟩
  · show 0 ≤ (kidsAt l c)[k.toNat]?.getD 0
    rw [hx]; exact hr.1
  · show (kidsAt l c)[k.toNat]?.getD 0 < _
    rw [hx]; exact hr.2
  · show 0 ≤ c.f + wsum l ((kidsAt l c).take k.toNat)
    omega
  · show c.f + wsum l ((kidsAt l c).take k.toNat) + (nodeAt l ((kidsAt l c)[k.toNat]?.getD 0)).width ≤ W
    rw [hx]; omega
  · show Go.Proofs.YtdmbfngenffcaaaGreat.co l ((kidsAt l c)[k.toNat]?.getD 0) ≤ C
    rw [hx]; omega
end
theorem CurIn.to {l : List Node} {W C : Nat} (ha : Ar l) : ∀ (p : List Int) (c x : Cur), CurIn l W C c → toC l c p = some x → CurIn l W C x
  | [], c, x, h, e => by
    obtain rfl : c = x := by simpa [toC] using e
    exact h
  | k :: r, c, x, h, e => by
    have e : (if 0 ≤ k ∧ k < (kidsAt l c).length then toC l (downC l c k) r else none) = some x := e
    split at e
    · rename_i hk
      exact CurIn.to ha r _ x (h.down ha hk.1 hk.2) e
    · cases e
structure TreeOk (b : List UInt8) (m : Mk) : Prop where
  ar : Ar (rootM m).n
  p : pr (rootM m).n m.n.length = b
  w : (nodeAt (rootM m).n m.n.length).width = b.length
  c : co (rootM m).n m.n.length ≤ 400000
  n : (rootM m).n.length ≤ 400000
  s : m.s.length = 1
theorem root_lt (m : Mk) : (m.n.length : Int) < ((rootM m).n.length : Int) := by
  show (m.n.length : Int) < ((m.n ++ [_]).length : Int)
  simp only [List.length_append, List.length_singleton]; omega
theorem TreeOk.pr {b : List UInt8} {m : Mk} (h : TreeOk b m) (hb : b.length ≤ 100000) : PrOk (rootM m).n m.n.length :=
  ⟨by have := h.n; omega, h.ar.wf, h.ar.wide, by omega, root_lt m, by rw [h.p]; omega, by have := h.c; omega⟩
theorem TreeOk.root {b : List UInt8} {m : Mk} (h : TreeOk b m) : CurIn (rootM m).n b.length 400000 (.root m.n.length) :=
  ⟨by show (0 : Int) ≤ m.n.length; omega, root_lt m, Int.le_refl _, by show (0 : Int) + (nodeAt (rootM m).n m.n.length).width ≤ _; rw [h.w]; omega, h.c⟩
end Go.Proofs.YtdmbfngenffcaaaGreat
namespace Go.Proofs.YtdmbfngenffcaaaGreat
open Go.RowKit Go.Lib
def NodeOk (x : Node) : Prop := x.b = [] ∨ x.kids = []
def NodeO1 (x : Node) : Prop := (x.b = [] ∧ x.kind = 21) ∨ x.kids = []
def DgOk (n : Nat) (x : Dg) : Prop := 0 ≤ x.f ∧ x.f ≤ x.t ∧ x.t ≤ n ∧ 1 ≤ x.c ∧ x.c ≤ 5
structure MkS (z : Nat) (m : Mk) : Prop where
  n : ∀ x ∈ m.n, NodeO1 x
  d : ∀ x ∈ m.d, DgOk z x
theorem nodes_more {P : Node → Prop} {l : List Node} (h : ∀ x ∈ l, P x) {y : Node} (hy : P y) : ∀ x ∈ l ++ [y], P x := fun x hx => by
  rcases List.mem_append.1 hx with hx | hx
  · exact h x hx
  · obtain rfl : x = y := by simpa using hx
    exact hy
theorem leaf_ok (k : Int) (b : List UInt8) : NodeO1 (leafF k b) := .inr rfl
theorem branch_ok (l : List Node) (ks : List Int) : NodeO1 (branchF l 21 ks) := .inl ⟨rfl, rfl⟩
section
variable {n : Nat} {m : Mk}
theorem MkS.add (h : MkS n m) {y : Node} (hy : NodeO1 y) : MkS n (addF y m) := ⟨nodes_more h.n hy, h.d⟩
theorem MkS.kid (h : MkS n m) (k : Int) : MkS n (kidF k m) := ⟨h.n, h.d⟩
theorem MkS.lk (h : MkS n m) (t : Txt) (b : List UInt8) (kind f u : Int) : MkS n (lkF t b kind f u m) := (h.add (leaf_ok _ _)).kid _
theorem MkS.shut (h : MkS n m) (l : Int) : MkS n (shutF l m) := ⟨nodes_more h.n (branch_ok _ _), h.d⟩
structure Plc (t : Txt) (n : Nat) (f u : Int) : Prop where
  h0 : 0 ≤ offA t f
  h1 : offA t f ≤ offA t u
  h2 : offA t u ≤ n
theorem MkS.wrong (h : MkS n m) (t : Txt) {c f u : Int} (hp : Plc t n f u) (hc : 1 ≤ c ∧ c ≤ 5) : MkS n (wrongF t c f u m) := ⟨h.n, fun x hx => by
  rcases List.mem_append.1 hx with hx | hx
  · exact h.d x hx
  · obtain rfl : x = ⟨offA t f, offA t u, c⟩ := by simpa using hx
    exact ⟨hp.h0, hp.h1, hp.h2, hc.1, hc.2⟩⟩
theorem Plc.same {t : Txt} {f u : Int} (h : Plc t n f u) : Plc t n f f := ⟨h.h0, Int.le_refl _, Int.le_trans h.h1 h.h2⟩
theorem MkS.miss (h : MkS n m) (t : Txt) {a : Int} (hp : Plc t n a a) : MkS n (missF t a m) := ((h.wrong t hp (by decide)).add (leaf_ok _ _)).shut _
end
theorem MkS.missGo {n : Nat} (t : Txt) {f : Int} (hp : Plc t n f f) (k : Nat) : ∀ (j : Nat) (m : Mk), MkS n m → MkS n (missGo t f k j m)
  | 0, _, h => h
  | j + 1, m, h => by
    show MkS n (if _ then _ else _)
    split
    · exact MkS.missGo t hp k j _ (h.miss t hp)
    · exact h
section
variable {n : Nat} {m : Mk}
theorem MkS.start (h : MkS n m) (t : Txt) (b : List UInt8) (kind : Int) {f u : Int} (hp : Plc t n f u) : MkS n (startF' t b kind f u m) := by
  unfold startF'
  split
  · exact (h.wrong t hp (by decide)).lk t b kind f u
  · exact MkS.lk (m := { m with s := m.s ++ [⟨nameF' t f u, []⟩] }) ⟨h.n, h.d⟩ t b kind f u
theorem MkS.end_ (h : MkS n m) (t : Txt) (b : List UInt8) (kind : Int) {f u : Int} (hp : Plc t n f u) : MkS n (endF' t b kind f u m) := by
  unfold endF'
  simp only
  split
  · exact (h.wrong t hp (by decide)).lk t b kind f u
  · exact ((MkS.missGo t hp.same _ _ _ h).add (leaf_ok _ _)).shut _
theorem MkS.token (h : MkS n m) (t : Txt) (b : List UInt8) (kind : Int) {f u : Int} (wh : Bool) (hp : Plc t n f u) : MkS n (tokenF t b kind f u wh m) := by
  unfold tokenF
  simp only
  generalize hm1 : (if wh = false then wrongF t 1 f u m else if (kind = 8 ∨ kind = 9 ∨ kind = 10) ∧ (readF t.r f u).right = false then wrongF t 2 f u m else m) = m1
  have h1 : MkS n m1 := by
    rw [← hm1]
    split
    · exact h.wrong t hp (by decide)
    · split
      · exact h.wrong t hp (by decide)
      · exact h
  split
  · exact h1.start t b kind hp
  · split
    · exact h1.end_ t b kind hp
    · exact h1.lk t b kind f u
end
theorem plc_of {t : Txt} {b : List UInt8} (ok : TxtOk t b) {f u : Int} (h0 : 0 ≤ f) (h1 : f ≤ u) (h2 : u ≤ t.r.length) : Plc t b.length f u := by
  have hm := ok.mono f.toNat u.toNat (by omega) (by omega)
  have hlen := ok.len
  have hf : f.toNat < t.off.length := by omega
  have hu : u.toNat < t.off.length := by omega
  have h3 := ok.range (t.off[f.toNat]'hf) (List.getElem_mem hf)
  have h4 := ok.range (t.off[u.toNat]'hu) (List.getElem_mem hu)
  have e3 : t.off[f.toNat]?.getD 0 = t.off[f.toNat] := by rw [List.getElem?_eq_getElem hf]; rfl
  have e4 : t.off[u.toNat]?.getD 0 = t.off[u.toNat] := by rw [List.getElem?_eq_getElem hu]; rfl
  rw [← e3] at h3
  rw [← e4] at h4
  exact ⟨h3.1, hm, h4.2⟩
theorem MkS.toks {t : Txt} {b : List UInt8} (ok : TxtOk t b) : ∀ (n k : Nat) (m : Mk), t.r.length - k ≤ n → MkS b.length m → MkS b.length ((toksGo t.r k).foldl (tokM t b) m)
  | 0, k, m, h, hi => by
    rw [toksGo_nil (by omega)]; exact hi
  | n + 1, k, m, h, hi => by
    by_cases hlt : k < t.r.length
    · obtain ⟨h1, h2, h3, h4⟩ := tok_in t.r hlt
      rw [toksGo_cons hlt, List.foldl_cons]
      have hp : Plc t b.length (tokAt t.r k).from_ (tokAt t.r k).to := plc_of ok (by omega) (by omega) (by omega)
      exact MkS.toks ok n (nextTF t.r k).2.1 _ (by omega) (hi.token t b _ _ hp)
    · rw [toksGo_nil hlt]; exact hi
theorem MkS.all {t : Txt} {b : List UInt8} (ok : TxtOk t b) {m : Mk} (hi : MkS b.length m) : MkS b.length (allM t b m) :=
  MkS.missGo t (plc_of ok (by omega) (Int.le_refl _) (Int.le_refl _)) 0 _ _ (MkS.toks ok t.r.length 0 m (by omega) hi)
end Go.Proofs.YtdmbfngenffcaaaGreat
namespace Go.Proofs.YtdmbfngenffcaaaGreat
open Go.RowKit Go.Lib
def IsN (n : Nat) (i : Int) : Prop := i = n
theorem IsN.eq {n : Nat} {i : Int} (h : IsN n i) : i = (n : Int) := h
def Cur.el (N : List AV) (c : Cur) : List AV := [.opt (.ref [.slc 6 N]), .val (.int .i64 c.n), .val (.int .i64 c.f), .val (.int .i64 c.k), .opt (upO N c)]
def CurAt (l : List Node) (b : List UInt8) (c : Cur) : Prop := ∃ pre post, b = pre ++ (pr l c.n ++ post) ∧ (pre.length : Int) = c.f
theorem CurAt.down {l : List Node} {b : List UInt8} {W C : Nat} {c : Cur} (ha : Ar l) (ho : ∀ x ∈ l, NodeOk x) (h : CurIn l W C c) (hb : CurAt l b c) {k : Int} (h0 : 0 ≤ k) (h1 : k < (kidsAt l c).length) : CurAt l b (downC l c k) := by
  obtain ⟨pre, post, e1, e2⟩ := hb
  have hk : k.toNat < (kidsAt l c).length := by omega
  have hx : (downC l c k).n = (kidsAt l c)[k.toNat] := by show (kidsAt l c)[k.toNat]?.getD 0 = _; rw [List.getElem?_eq_getElem hk]; rfl
  have hin := h.kids ha
  have hnb : (nodeAt l c.n).b = [] := by
    have hm : nodeAt l c.n ∈ l := by
      have hlt : c.n.toNat < l.length := by have := h.h0; have := h.h1; omega
      rw [nodeAt, if_pos ⟨h.h0, h.h1⟩, List.getElem?_eq_getElem hlt]
      exact List.getElem_mem hlt
    rcases ho _ hm with h2 | h2
    · exact h2
    · have h2 : kidsAt l c = [] := h2
      rw [h2] at hk; exact absurd hk (by simp)
  have hp : pr l c.n = (kidsAt l c).flatMap (pr l) := by
    rw [pr_eq ha.wf h.h0 h.h1, hnb]; rfl
  have hsp : kidsAt l c = (kidsAt l c).take k.toNat ++ ((kidsAt l c)[k.toNat] :: (kidsAt l c).drop (k.toNat + 1)) := by
    rw [← List.drop_eq_getElem_cons hk, List.take_append_drop]
  have hpk : pr l c.n = ((kidsAt l c).take k.toNat).flatMap (pr l) ++ (pr l (kidsAt l c)[k.toNat] ++ ((kidsAt l c).drop (k.toNat + 1)).flatMap (pr l)) := by
    rw [hp]
    conv => lhs; rw [hsp]
    rw [List.flatMap_append, List.flatMap_cons]
  refine ⟨pre ++ ((kidsAt l c).take k.toNat).flatMap (pr l), ((kidsAt l c).drop (k.toNat + 1)).flatMap (pr l) ++ post, ?_, ?_⟩
  · rw [e1, hpk, hx]; simp only [List.append_assoc]
  · show ((pre ++ _).length : Int) = c.f + wsum l ((kidsAt l c).take k.toNat)
    rw [wsum_pr ha.wide (fun y hy => hin y (List.mem_of_mem_take hy)), List.length_append]
    omega
def CurB (l : List Node) (b : List UInt8) (C : Nat) (c : Cur) : Prop := CurIn l b.length C c ∧ CurAt l b c
theorem CurAt.cut {l : List Node} {b : List UInt8} {c : Cur} (h : CurAt l b c) : (b.drop c.f.toNat).take (pr l c.n).length = pr l c.n := by
  obtain ⟨pre, post, e1, e2⟩ := h
  rw [e1, show c.f.toNat = pre.length by omega, List.drop_left, List.take_left]
end Go.Proofs.YtdmbfngenffcaaaGreat
namespace Go.Proofs.YtdmbfngenffcaaaGreat
open Go.RowKit Go.Lib
section
variable {w w' : World} {A' : Nat → Nat → Prop}
theorem own_bytes {base n : Nat} {v : Value} {l : List UInt8} (h : w'.ownsRow base 5 1 v n (bc l)) (hA : ∀ b o, base ≤ b → b < w'.heap.size → A' b o) : PRel w' A' v (.slc 1 (bytesA l)) := by
  have hn : n = (bytesA l).length := by
    have := h.1
    rw [bytes_len]; simpa [bc] using this.symm
  refine own_slc h (by decide) ?_ hn (fun x hx => by obtain ⟨y, _, rfl⟩ := List.mem_map.1 hx; rfl) hA
  have e : flatA (bytesA l) = (bc l).map .val := by
    have e1 : bytesA l = (bc l).map .val := by simp [bytesA, bc, byteA]
    rw [e1, flatVals]
  rw [e]
  refine vals_alike fun u hu => ?_
  obtain ⟨x, _, rfl⟩ := List.mem_map.1 hu
  rfl
end
theorem ScanBytes_b (l : List Int) (hl : l.length ≤ 100000000) : BCall Tryz.prog 68 [.slc 1 (runesA l)] [] (.slc 1 (bytesA (bytesF l))) [] := by
  refine BCall.hand (enters_of Tryz.func68 (by kernel_rfl) rfl) fun w g vs M hL => ?_
  obtain ⟨v1, vs1, rfl, h1, hL⟩ := argsCons hL
  obtain rfl := argsNil hL
  obtain ⟨A, c, rfl, hr⟩ := runes_rd h1 M
  exact (Bytes_any _ A _ c l w hr hl).mono fun e w' ⟨v, h, ⟨n', ho⟩, hbel⟩ => ⟨v, h, hbel, own_bytes (A' := (g.imm w w').A) ho fun b o h1 h2 => .inr ⟨h1, h2⟩⟩
theorem RefBytes_b (l : List Int) (hl : l.length ≤ 100000000) (hi : I32 l) : BCall Tryz.prog 36 [.slc 1 (runesA l)] [] (.slc 1 (bytesA (bytesF l))) [] := by
  refine BCall.hand (enters_of Tryz.func36 (by kernel_rfl) rfl) fun w g vs M hL => ?_
  obtain ⟨v1, vs1, rfl, h1, hL⟩ := argsCons hL
  obtain rfl := argsNil hL
  obtain ⟨A, c, rfl, hr⟩ := runes_rd h1 M
  exact (RBytes_any _ A _ c l w hr hl hi).mono fun e w' ⟨v, h, ⟨n', ho⟩, hbel⟩ => ⟨v, h, hbel, own_bytes (A' := (g.imm w w').A) ho fun b o h1 h2 => .inr ⟨h1, h2⟩⟩
structure Ev where
  do_ : Int
  kind : Int
  b : List UInt8
  deriving Inhabited, DecidableEq
def spF (l : List Node) : Nat → Int → Bool → List Ev
  | 0, _, _ => []
  | f + 1, n, top => if (nodeAt l n).kind ≠ 21 ∧ top = false then [⟨2, (nodeAt l n).kind, pr l n⟩]
    else (if top = true then [] else [⟨1, 0, []⟩]) ++ (nodeAt l n).kids.flatMap (fun k => spF l f k false) ++ (if top = true then [] else [⟨3, 0, []⟩])
def spV (l : List Node) (n : Int) (top : Bool) : List Ev := spF l (n.toNat + 1) n top
theorem spF_more {l : List Node} (hw : Wf l) : ∀ (f f' : Nat) (n : Int) (top : Bool), 0 ≤ n → n < l.length → n.toNat < f → n.toNat < f' → spF l f n top = spF l f' n top
  | 0, _, _, _, _, _, h, _ => by omega
  | _ + 1, 0, _, _, _, _, _, h => by omega
  | f + 1, f' + 1, n, top, h0, h1, h2, h3 => by
    simp only [spF]
    have : (nodeAt l n).kids.flatMap (fun k => spF l f k false) = (nodeAt l n).kids.flatMap (fun k => spF l f' k false) := by
      refine congrArg List.flatten (List.map_congr_left fun k hk => ?_)
      have := hw n h0 h1 k hk
      exact spF_more hw f f' k false this.1 (by omega) (by omega) (by omega)
    rw [this]
theorem spN_eq {l : List Node} (hw : Wf l) {n : Int} (h0 : 0 ≤ n) (h1 : n < l.length) (top : Bool) : spV l n top = if (nodeAt l n).kind ≠ 21 ∧ top = false then [⟨2, (nodeAt l n).kind, pr l n⟩]
    else (if top = true then [] else [⟨1, 0, []⟩]) ++ (nodeAt l n).kids.flatMap (fun k => spV l k false) ++ (if top = true then [] else [⟨3, 0, []⟩]) := by
  show spF l (n.toNat + 1) n top = _
  simp only [spF]
  have : (nodeAt l n).kids.flatMap (fun k => spF l n.toNat k false) = (nodeAt l n).kids.flatMap (fun k => spV l k false) := by
    refine congrArg List.flatten (List.map_congr_left fun k hk => ?_)
    have := hw n h0 h1 k hk
    exact spF_more hw _ _ k false this.1 (by omega) (by omega) (by omega)
  rw [this]
end Go.Proofs.YtdmbfngenffcaaaGreat
namespace Go.Proofs.YtdmbfngenffcaaaGreat
open Go.RowKit Go.Lib
def tkW (p : Int → Bool) (l : List Int) (k : Int) : List Int := (l.drop k.toNat).takeWhile p
def skI (l : List Int) (k : Int) : Int := k + (tkW isSpace l k).length
def ncI (l : List Int) (k : Int) : Int := k + (tkW isNameChar l k).length
def txF (x : List Int) : ByteArray := ⟨(bytesF x).toArray⟩
def wtB (l : List Int) (k : Int) : ByteArray := txF (tkW isNameChar l k)
def sdI (l : List Int) (k : Int) (s : ByteArray) : Bool := startsF l k.toNat s.data.toList
def Pla (l : List Int) (k : Int) : Prop := 0 ≤ k ∧ k ≤ l.length
theorem tkW_len (p : Int → Bool) (l : List Int) {k : Int} (h : Pla l k) : k + (tkW p l k).length ≤ l.length := by
  have h1 := (List.takeWhile_sublist p (l := l.drop k.toNat)).length_le
  rw [List.length_drop] at h1
  unfold tkW Pla at *
  omega
theorem Pla.sp {l : List Int} {k : Int} (h : Pla l k) : Pla l (skI l k) := ⟨by have := h.1; unfold skI; omega, tkW_len _ l h⟩
theorem Pla.nc {l : List Int} {k : Int} (h : Pla l k) : Pla l (ncI l k) := ⟨by have := h.1; unfold ncI; omega, tkW_len _ l h⟩
theorem sp_ge (l : List Int) (k : Int) : k ≤ skI l k := by unfold skI; omega
theorem nc_ge (l : List Int) (k : Int) : k ≤ ncI l k := by unfold ncI; omega
theorem sdI_len {l : List Int} {k : Int} {s : ByteArray} (h : Pla l k) (hs : sdI l k s = true) : k + s.size ≤ l.length := by
  unfold sdI startsF at hs
  simp only [Bool.and_eq_true, beq_iff_eq] at hs
  have := congrArg List.length hs.2
  rw [List.length_take, List.length_drop, bi, List.length_map] at this
  have hl : s.data.toList.length = s.size := by simp
  unfold Pla at h
  omega
theorem Pla.st {l : List Int} {k : Int} {s : ByteArray} (h : Pla l k) (hs : sdI l k s = true) : Pla l (k + s.size) := ⟨by have := h.1; omega, sdI_len h hs⟩
def rdB (l : List Int) (k : Int) : Ob := .box [.slc 1 (runesA l), .val (.int .i64 k)]
def wrongV : Value := .iface 51 (.agg #[])
def csL (t : List (Nat × AV × List Ob)) : Nat → List AV → List Ob → Option (AV × List Ob) := fun g _ _ => match t with
  | [] => none
  | (h, r) :: t => match Nat.beq g h with
    | true => some r
    | false => csL t g [] []
theorem must_t : BCall Tryz.prog 28 [.val (.bool true)] [] (.tup []) [] := by
  refine fnN (cs0) Tryz.func28 rfl fun _ _ => ?_
  with_reducible refine cv0 ?_
  exact ⟨fun h => absurd (show false = true from h) Bool.noConfusion, fun _ => .pure rfl trivial⟩
theorem must_f : BPan Tryz.prog 28 [.val (.bool false)] [] wrongV := by
  refine ⟨enters_of Tryz.func28 (by kernel_rfl) rfl, fun w g vs M hL => ?_⟩
  obtain ⟨v1, vs1, rfl, h1, hL⟩ := argsCons hL
  obtain rfl := argsNil hL
  obtain rfl := argVal h1
  go_enter Tryz.func28, Tryz.ntmps28
  go_wp2
  exact ⟨rfl, g, [], rfl, M, Step.refl⟩
theorem must_c {b : Bool} (h : b = true) : BCall Tryz.prog 28 [.val (.bool b)] [] (.tup []) [] := by rw [h]; exact must_t
theorem must_p {b : Bool} (h : b = false) : BPan Tryz.prog 28 [.val (.bool b)] [] wrongV := by rw [h]; exact must_f
theorem dtext_b (x : List Int) (hx : x.length ≤ 1000000) : BCall Tryz.prog 44 [.slc 1 (runesA x)] [] (.val (.string (txF x))) [] := by
  have c := ScanBytes_b x (by omega)
  have hB := isB_bytesA (bytesF x)
  have hS : std.strB (bytesA (bytesF x)) = txF x := by simp [std, bytes_back, txF]
  obtain ⟨B, hBE⟩ : ∃ B, B = bytesA (bytesF x) := ⟨_, rfl⟩
  rw [← hBE] at c hB hS
  refine fnN (csL [(68, .slc 1 B, [])]) Tryz.func44 rfl fun _ _ => ?_
  with_reducible refine cv1 (runesA x) ?_
  exact ⟨c, hB, .pure rfl (.inl (by rw [← hS]))⟩
theorem run_c (p : Int → Bool) (l : List Int) (k : Int) (hk : Pla l k) : ((runF p l k : Nat) : Int) = (tkW p l k).length := by
  unfold Pla at hk
  rw [runF, if_neg (by omega), tkW]
theorem space_b (l : List Int) (hl : l.length ≤ 1000000) (k : Int) (hk : Pla l k) : BCall Tryz.prog 24 [.box 0 0] [rdB l k] (.val (.int .i64 (skI l k - k))) [rdB l (skI l k)] := by
  have h2 := hk.sp
  have c := Run_b l k isSpace 47 (enters_of Tryz.func47 (by kernel_rfl) rfl) Space_ok
  rw [run_c _ _ _ hk] at c
  obtain ⟨n, hn⟩ : ∃ n : Int, n = (tkW isSpace l k).length := ⟨_, rfl⟩
  have e : skI l k = k + n := by rw [skI, hn]
  rw [← hn] at c
  rw [e] at h2 ⊢
  rw [show k + n - k = n by omega]
  unfold Pla at hk h2
  unfold rdB
  refine fnN (csL [(46, .val (.int .i64 n), [])]) Tryz.func24 rfl fun _ _ => ?_
  with_reducible refine cv1 (runesA l) ?_
  refine ⟨c, ?_, [some 0], .val (.int .i64 n), _, rfl, rfl, Nat.le_refl _, rfl, ?_, leA_refl rfl⟩
  · show std.inR .i64 (k + n)
    rw [inR64]; omega
  · exact eq0
theorem run_b (l : List Int) (hl : l.length ≤ 1000000) (k : Int) (hk : Pla l k) : BCall Tryz.prog 45 [.box 0 0] [rdB l k] (.slc 1 (runesA (tkW isNameChar l k))) [rdB l (ncI l k)] := by
  have h2 := hk.nc
  have c := Run_b l k isNameChar 69 eg_NameChar NameChar_ok
  rw [run_c _ _ _ hk] at c
  have ec : std.cut (runesA l) k (ncI l k) = runesA (tkW isNameChar l k) := by
    unfold Pla at hk
    show ((runesA l).drop k.toNat).take (ncI l k - k).toNat = _
    rw [ncI, show (k + ((tkW isNameChar l k).length : Nat) - k : Int).toNat = (tkW isNameChar l k).length by omega, runesA, runesA, ← List.map_drop, ← List.map_take, tkW]
    congr 1
    exact (List.prefix_iff_eq_take.1 (List.takeWhile_prefix isNameChar)).symm
  obtain ⟨n, hn⟩ : ∃ n : Int, n = (tkW isNameChar l k).length := ⟨_, rfl⟩
  have e : ncI l k = k + n := by rw [ncI, hn]
  rw [← hn] at c
  rw [e] at h2 ec ⊢
  generalize runesA (tkW isNameChar l k) = RW at *
  unfold Pla at hk h2
  unfold rdB
  have hll : std.len (runesA l) = (l.length : Int) := by show ((runesA l).length : Int) = _; rw [runes_len]
  refine fnN (csL [(46, .val (.int .i64 n), [])]) Tryz.func45 rfl fun _ _ => ?_
  with_reducible refine cv1 (runesA l) ?_
  have q : (std.inR .i64 (std.add k n)).q := by
    show std.inR .i64 (k + n)
    rw [inR64]; omega
  refine ⟨c, q, ?_, q, [some 0], _, _, rfl, rfl, Nat.le_refl _, rfl, ?_, leA_refl rfl⟩
  · show 0 ≤ k ∧ k ≤ k + n ∧ k + n ≤ std.len (runesA l)
    rw [hll]; omega
  · exact eq1 ec
def nxI (l : List Int) (k : Int) (s : ByteArray) : Int := if sdI l k s = true then k + s.size else k
theorem Pla.nx {l : List Int} {k : Int} {s : ByteArray} (h : Pla l k) : Pla l (nxI l k s) := by
  unfold nxI
  split
  · rename_i hs; exact h.st hs
  · exact h
theorem next_b (l : List Int) (hl : l.length ≤ 1000000) (k : Int) (hk : Pla l k) (s : ByteArray) (hs : s.size ≤ 1000) : BCall Tryz.prog 25 [.box 0 0, .val (.string s)] [rdB l k] (.val (.bool (sdI l k s))) [rdB l (nxI l k s)] := by
  have c : BCall Tryz.prog 48 [.slc 1 (runesA l), .val (.int .i64 k), .val (.string s)] [] (.val (.bool (sdI l k s))) [] := Starts_b l (by omega) k hk.1 hk.2 s (by omega)
  have hS : sdI l k s = true → Pla l (k + s.size) := fun h => hk.st h
  unfold nxI
  generalize sdI l k s = b at *
  unfold rdB
  refine fnN (csL [(48, .val (.bool b), [])]) Tryz.func25 rfl fun _ _ => ?_
  with_reducible refine cv1 (runesA l) ?_
  refine ⟨c, fun h => ⟨?_, ?_⟩, fun h => ?_⟩
  · show std.inR .i64 (k + s.size)
    have := hS h
    unfold Pla at this hk
    rw [inR64]; omega
  · rw [if_pos h]
    refine ⟨[some 0], _, _, rfl, rfl, Nat.le_refl _, rfl, ?_, leA_refl rfl⟩
    exact eq0
  · rw [if_neg (by rw [h]; decide)]
    refine ⟨[some 0], _, _, rfl, rfl, Nat.le_refl _, rfl, ?_, leA_refl rfl⟩
    exact eq0
abbrev pR (b : Bool) (r : AV) : AV := .tup [.dead, .val wrongV, .val (.bool b), r]
theorem take_b (l : List Int) (hl : l.length ≤ 1000000) (k : Int) (hk : Pla l k) (s : ByteArray) (hs : s.size ≤ 1000) :
    BEnd Tryz.prog 23 [.box 0 0, .val (.string s)] [rdB l k] wrongV (rdR (runesA l) (.tup []) (if sdI l k s = true then some (k + s.size) else none)) := by
  have c := next_b l hl k hk s hs
  unfold nxI at c
  generalize sdI l k s = b at *
  unfold rdB at *
  obtain ⟨k2, hk2⟩ : ∃ k2, k2 = if b = true then k + (s.size : Int) else k := ⟨_, rfl⟩
  rw [← hk2] at c
  refine fnE _ _ (csL [(25, .val (.bool b), [.box [.slc 1 (runesA l), .val (.int .i64 k2)]]), (28, pR b (.tup []), [])]) (fun _ => .nil) Tryz.func23 rfl fun _ _ => ?_
  with_reducible refine cv1 (runesA l) ?_
  refine ⟨c, fun h => ⟨must_c h, .ok (by rw [if_pos h]; rfl) ?_⟩, fun h => ⟨must_p h, fun _ => .pan (by rw [if_neg (by rw [h]; decide)]; rfl)⟩⟩
  rw [if_pos h] at hk2
  refine ⟨[some 0], _, _, rfl, rfl, Nat.le_refl _, rfl, ?_, leA_refl rfl⟩
  exact eq1 hk2
theorem word_b (l : List Int) (hl : l.length ≤ 1000000) (k : Int) (hk : Pla l k) (s : ByteArray) :
    BCall Tryz.prog 22 [.box 0 0, .val (.string s)] [rdB l k] (.val (.bool (std.eqS (wtB l k) s))) [rdB l (if std.eqS (wtB l k) s = true then ncI l k else k)] := by
  have c := run_b l hl k hk
  have hn := hk.nc
  have c2 := dtext_b (tkW isNameChar l k) (by have := tkW_len isNameChar l hk; unfold Pla at hk; omega)
  change BCall _ _ _ _ (.val (.string (wtB l k))) _ at c2
  generalize wtB l k = T at *
  generalize runesA (tkW isNameChar l k) = RW at *
  generalize ncI l k = k2 at *
  unfold rdB at *
  refine fnN (csL [(45, .slc 1 RW, [.box [.slc 1 (runesA l), .val (.int .i64 k2)]]), (44, .val (.string T), [])]) Tryz.func22 rfl fun _ _ => ?_
  with_reducible refine cv1 (runesA l) ?_
  refine ⟨c, c2, fun h => ?_, fun h => ?_⟩
  · have h : std.eqS T s = true := h
    rw [if_pos h, h]
    refine ⟨[some 0], _, _, rfl, rfl, Nat.le_refl _, rfl, ?_, leA_refl rfl⟩
    exact eq0
  · have h : std.eqS T s = false := h
    rw [if_neg (by rw [h]; decide), h]
    refine ⟨[some 0], _, _, rfl, rfl, Nat.le_refl _, rfl, ?_, leA_refl rfl⟩
    exact eq0
def okN (l : List Int) (k : Int) : Bool := nameF (wtB l k).data.toList
theorem Name_b (s : ByteArray) (hs : s.size ≤ 300000000) : BCall Tryz.prog 70 [.val (.string s)] [] (.val (.bool (nameF s.data.toList))) [] := by
  refine BCall.hand (enters_of Tryz.func70 (by kernel_rfl) rfl) fun w g vs M hL => ?_
  obtain ⟨v1, vs1, rfl, k1, hL⟩ := argsCons hL
  obtain rfl := argsNil hL
  obtain rfl := argVal k1
  exact (NName_any s w hs).mono fun e w' ⟨h, hb⟩ => ⟨_, h, hb, .val _ rfl⟩
theorem dname_b (l : List Int) (hl : l.length ≤ 1000000) (k : Int) (hk : Pla l k) :
    BEnd Tryz.prog 49 [.box 0 0] [rdB l k] wrongV (rdR (runesA l) (.val (.string (wtB l k))) (if okN l k = true then some (ncI l k) else none)) := by
  have c := run_b l hl k hk
  have hn := hk.nc
  have hx : (tkW isNameChar l k).length ≤ 1000000 := by have := tkW_len isNameChar l hk; unfold Pla at hk; omega
  have c2 := dtext_b (tkW isNameChar l k) hx
  change BCall _ _ _ _ (.val (.string (wtB l k))) _ at c2
  have c3 := Name_b (wtB l k) (by
    have := bytesF_len (tkW isNameChar l k)
    show (bytesF _).toArray.size ≤ _
    rw [List.size_toArray]; omega)
  change BCall _ _ _ _ (.val (.bool (okN l k))) _ at c3
  generalize okN l k = b at *
  generalize wtB l k = T at *
  generalize runesA (tkW isNameChar l k) = RW at *
  generalize ncI l k = k2 at *
  unfold rdB at *
  refine fnE _ _ (csL [(45, .slc 1 RW, [.box [.slc 1 (runesA l), .val (.int .i64 k2)]]), (44, .val (.string T), []), (70, .val (.bool b), []), (28, pR b (.tup []), [])]) (fun _ => .nil) Tryz.func49 rfl fun _ _ => ?_
  with_reducible refine cv1 (runesA l) ?_
  refine ⟨c, c2, c3, fun h => ⟨must_c h, .ok (by rw [if_pos h]; rfl) ?_⟩, fun h => ⟨must_p h, fun _ => .pan (by rw [if_neg (by rw [h]; decide)]; rfl)⟩⟩
  refine ⟨[some 0], _, _, rfl, rfl, Nat.le_refl _, rfl, ?_, leA_refl rfl⟩
  exact eq0
end Go.Proofs.YtdmbfngenffcaaaGreat
namespace Go.Proofs.YtdmbfngenffcaaaGreat
open Go.RowKit Go.Lib
theorem runes_row (s : ByteArray) (X : List Int) (n : Nat) (hs : s.size = n) (hX : X.length = n) (hn : n ≤ 1000) (hd : ∀ p, p < n → std.itr s p = X[p]?.getD 0 ∧ std.itp s p = p + 1) :
    BCall Tryz.prog 6 [.val (.string s)] [] (.row 0 0) [.row 21 1 false 0 (runesA X)] := by
  refine fnR 2 cs0 (fun _ => .nil) Tryz.func6 rfl rfl fun _ _ => ?_
  with_reducible refine cv0 ?_
  refine loopN (cs0) (Nat) (fun p => ⟨[(3, .row 1 0), (7, .iter 0)], [.iter s p, .row 21 1 false 0 (runesA (X.take p))]⟩) (fun p => p ≤ n) (fun p => n - p) 0 ?_ ?_ ?_
  · exact Nat.zero_le n
  · refine ⟨[some 0, none], _, rfl, ?_⟩
    have e1 : runesA (X.take 0) = [] := rfl
    rw [e1]
    exact eq0
  · intro p hp
    have hp : p ≤ n := hp
    with_reducible refine cv1 (runesA (X.take p)) ?_
    refine ⟨fun h => ?_, fun h => ?_⟩
    · have h : p < s.size := of_decide_eq_true h
      obtain ⟨h1, h2⟩ := hd p (by omega)
      have e1 : runesA (X.take (p + 1)) = runesA (X.take p) ++ [.val (.int .i32 (X[p]?.getD 0))] := by
        rw [List.take_add_one, runes_app, List.getElem?_eq_getElem (by omega)]; rfl
      rw [← h1] at e1
      refine ⟨?_, p + 1, by omega, by omega, [some 0, some 1], _, rfl, ?_⟩
      · show (runesA (X.take p)).length + 1 ≤ 1000000000
        rw [runes_len, List.length_take]; omega
      · rw [e1, ← h2]
        exact eq0
    · have h : ¬ p < s.size := of_decide_eq_false h
      have ep : X.take p = X := List.take_of_length_le (by omega)
      rw [ep]
      rw [if_pos trivial]
      with_reducible refine cv1 (runesA X) ?_
      refine ⟨[some 1], _, _, rfl, rfl, Nat.zero_le _, rfl, ?_, leA_refl rfl⟩
      exact eq0
def lEle : List Int := [60, 33, 69, 76, 69, 77, 69, 78, 84]
def lEla : List Int := [60, 33, 69, 76, 69, 77, 69, 78, 84, 32, 97, 32]
theorem runes_lit (s : ByteArray) (X : List Int) (h : (Nat.ble X.length 1000 && (Nat.beq s.size X.length && (List.range X.length).all fun p => (std.itr s p == X[p]?.getD 0) && Nat.beq (std.itp s p) (p + 1))) = true) :
    BCall Tryz.prog 6 [.val (.string s)] [] (.row 0 0) [.row 21 1 false 0 (runesA X)] := by
  simp only [Bool.and_eq_true] at h
  obtain ⟨h1, h2, h3⟩ := h
  refine runes_row s X X.length (Nat.eq_of_beq_eq_true h2) rfl (Nat.le_of_ble_eq_true h1) fun p hp => ?_
  have h4 := List.all_eq_true.1 h3 p (List.mem_range.2 hp)
  rw [Bool.and_eq_true] at h4
  exact ⟨eq_of_beq h4.1, Nat.eq_of_beq_eq_true h4.2⟩
theorem runes_ele : BCall Tryz.prog 6 [.val (.string ⟨⟨[60, 33, 69, 76, 69, 77, 69, 78, 84]⟩⟩)] [] (.row 0 0) [.row 21 1 false 0 (runesA lEle)] := runes_lit _ _ (by kernel_rfl)
theorem runes_ela : BCall Tryz.prog 6 [.val (.string ⟨⟨[60, 33, 69, 76, 69, 77, 69, 78, 84, 32, 97, 32]⟩⟩)] [] (.row 0 0) [.row 21 1 false 0 (runesA lEla)] := runes_lit _ _ (by kernel_rfl)
end Go.Proofs.YtdmbfngenffcaaaGreat
namespace Go.Proofs.YtdmbfngenffcaaaGreat
open Go.RowKit Go.Lib
def oftI (l : List Int) (k : Int) : Int := if sdI l k ⟨⟨[63]⟩⟩ = true then nxI l k ⟨⟨[63]⟩⟩ else if sdI l k ⟨⟨[42]⟩⟩ = true then nxI l k ⟨⟨[42]⟩⟩ else nxI l k ⟨⟨[43]⟩⟩
def sgI (l : List Int) (sg : ByteArray) (k : Int) : Option (ByteArray × Int) :=
  if std.eqS sg ⟨⟨[]⟩⟩ = false then (if sdI l k sg = true then some (sg, nxI l k sg) else none)
  else if sdI l k ⟨⟨[124]⟩⟩ = true then some (⟨⟨[124]⟩⟩, nxI l k ⟨⟨[124]⟩⟩) else if sdI l k ⟨⟨[44]⟩⟩ = true then some (⟨⟨[44]⟩⟩, nxI l k ⟨⟨[44]⟩⟩) else none
def lpI (l : List Int) (it : Int → Option Int) : Nat → ByteArray → Int → Option Int
  | 0, _, _ => none
  | f + 1, sg, k => if sdI l k ⟨⟨[41]⟩⟩ = true then some (nxI l k ⟨⟨[41]⟩⟩) else match sgI l sg k with
    | none => none
    | some (sg', k1) => match it (skI l k1) with
      | none => none
      | some k2 => lpI l it f sg' (skI l k2)
def grI (l : List Int) (it : Int → Option Int) (k : Int) : Option Int := match it (skI l k) with
  | none => none
  | some k1 => (lpI l it (l.length + 1) ⟨⟨[]⟩⟩ (skI l k1)).map (oftI l)
def itI (l : List Int) : Nat → Int → Option Int
  | 0, k => if sdI l k ⟨⟨[40]⟩⟩ = true then none else if okN l k = true then some (oftI l (ncI l k)) else none
  | n + 1, k => if sdI l k ⟨⟨[40]⟩⟩ = true then grI l (itI l n) (nxI l k ⟨⟨[40]⟩⟩) else if okN l k = true then some (oftI l (ncI l k)) else none
theorem nx_ge (l : List Int) (k : Int) (s : ByteArray) : k ≤ nxI l k s := by
  unfold nxI
  split <;> omega
theorem oft_ge (l : List Int) (k : Int) : k ≤ oftI l k := by
  unfold oftI
  split
  · exact nx_ge _ _ _
  · split <;> exact nx_ge _ _ _
theorem Pla.oft {l : List Int} {k : Int} (h : Pla l k) : Pla l (oftI l k) := by
  unfold oftI
  split
  · exact h.nx
  · split <;> exact h.nx
def ItOk (l : List Int) (it : Int → Option Int) : Prop := ∀ k k2, Pla l k → it k = some k2 → k ≤ k2 ∧ Pla l k2
theorem eqS_sg (c : UInt8) : std.eqS ⟨⟨[c]⟩⟩ ⟨⟨[]⟩⟩ = false := by simp [std, ByteArray.toList_eq]
theorem eqS_em : std.eqS ⟨⟨[]⟩⟩ ⟨⟨[]⟩⟩ = true := by simp [std]
theorem eqS_size {s : ByteArray} (h : std.eqS s ⟨⟨[]⟩⟩ = false) : 1 ≤ s.size := by
  cases hs : s.data.toList with
  | nil =>
    have e : s = ⟨⟨[]⟩⟩ := by
      cases s with
      | mk d => cases d with
        | mk l => simp at hs; rw [hs]
    rw [e, eqS_em] at h; cases h
  | cons a r =>
    have h1 := congrArg List.length hs
    have h2 : s.data.toList.length = s.size := by simp
    rw [h2, List.length_cons] at h1
    omega
theorem sg_ok {l : List Int} {sg : ByteArray} {k : Int} {q : ByteArray × Int} (hk : Pla l k) (h : sgI l sg k = some q) (hz : sg.size ≤ 1) : k + 1 ≤ q.2 ∧ Pla l q.2 ∧ q.1.size ≤ 1 := by
  unfold sgI at h
  split at h
  · rename_i h0
    split at h
    · rename_i h1
      obtain rfl := Option.some.inj h
      have := eqS_size h0
      exact ⟨by simp only [nxI, if_pos h1]; omega, hk.nx, hz⟩
    · cases h
  · split at h
    · rename_i h1
      obtain rfl := Option.some.inj h
      exact ⟨by simp only [nxI, if_pos h1]; show k + 1 ≤ k + ((1 : Nat) : Int); omega, hk.nx, Nat.le_refl 1⟩
    · split at h
      · rename_i h1
        obtain rfl := Option.some.inj h
        exact ⟨by simp only [nxI, if_pos h1]; show k + 1 ≤ k + ((1 : Nat) : Int); omega, hk.nx, Nat.le_refl 1⟩
      · cases h
theorem lp_ok {l : List Int} {it : Int → Option Int} (hi : ItOk l it) : ∀ (f : Nat) (sg : ByteArray) (k k2 : Int), sg.size ≤ 1 → Pla l k → lpI l it f sg k = some k2 → k ≤ k2 ∧ Pla l k2
  | 0, _, _, _, _, _, h => by cases h
  | f + 1, sg, k, k2, hz, hk, h => by
    unfold lpI at h
    split at h
    · obtain rfl := Option.some.inj h
      exact ⟨nx_ge _ _ _, hk.nx⟩
    · split at h
      · cases h
      · rename_i sg' k1 hs
        obtain ⟨h1, h2, hz2⟩ := sg_ok hk hs hz
        simp only at h1 h2 hz2
        split at h
        · cases h
        · rename_i k3 h3
          obtain ⟨h4, h5⟩ := hi _ _ h2.sp h3
          obtain ⟨h6, h7⟩ := lp_ok hi f _ _ _ hz2 h5.sp h
          have := sp_ge l k1
          have := sp_ge l k3
          exact ⟨by omega, h7⟩
theorem gr_ok {l : List Int} {it : Int → Option Int} (hi : ItOk l it) : ItOk l (grI l it) := fun k k2 hk h => by
  unfold grI at h
  split at h
  · cases h
  · rename_i k1 h1
    obtain ⟨k3, h3, rfl⟩ := Option.map_eq_some_iff.1 h
    obtain ⟨h4, h5⟩ := hi _ _ hk.sp h1
    obtain ⟨h6, h7⟩ := lp_ok hi _ _ _ _ (by decide) h5.sp h3
    have := sp_ge l k
    have := sp_ge l k1
    have := oft_ge l k3
    exact ⟨by omega, h7.oft⟩
theorem it_ok (l : List Int) : ∀ n, ItOk l (itI l n)
  | 0 => fun k k2 hk h => by
    unfold itI at h
    split at h
    · cases h
    · split at h
      · obtain rfl := Option.some.inj h
        have := nc_ge l k
        have := oft_ge l (ncI l k)
        exact ⟨by omega, hk.nc.oft⟩
      · cases h
  | n + 1 => fun k k2 hk h => by
    unfold itI at h
    split at h
    · obtain ⟨h1, h2⟩ := gr_ok (it_ok l n) _ _ hk.nx h
      have := nx_ge l k ⟨⟨[40]⟩⟩
      exact ⟨by omega, h2⟩
    · split at h
      · obtain rfl := Option.some.inj h
        have := nc_ge l k
        have := oft_ge l (ncI l k)
        exact ⟨by omega, hk.nc.oft⟩
      · cases h
def csKR (L : List AV) (sp sc nc oft : Int → Int) (st : Int → ByteArray → Bool) (nx : Int → ByteArray → Int) (wq : Int → ByteArray → Bool) (wk : Int → ByteArray → Int) (ok : Int → Bool) (wt : Int → ByteArray) (io go mo : Int → Bool) (ik gk mk : Int → Int) : Nat → List AV → List Ob → Option (AV × List Ob) := fun g args ob => match g, args, ob with
  | 24, [.box 0 0], [.box [_, .val (.int .i64 k)]] => some (.val (.int .i64 (sc k)), [.box [.slc 1 L, .val (.int .i64 (sp k))]])
  | 25, [.box 0 0, .val (.string s)], [.box [_, .val (.int .i64 k)]] => some (.val (.bool (st k s)), [.box [.slc 1 L, .val (.int .i64 (nx k s))]])
  | 23, [.box 0 0, .val (.string s)], [.box [_, .val (.int .i64 k)]] => some (pR (st k s) (.tup []), [.box [.slc 1 L, .val (.int .i64 (nx k s))]])
  | 22, [.box 0 0, .val (.string s)], [.box [_, .val (.int .i64 k)]] => some (.val (.bool (wq k s)), [.box [.slc 1 L, .val (.int .i64 (wk k s))]])
  | 49, [.box 0 0], [.box [_, .val (.int .i64 k)]] => some (pR (ok k) (.val (.string (wt k))), [.box [.slc 1 L, .val (.int .i64 (nc k))]])
  | 51, [.box 0 0], [.box [_, .val (.int .i64 k)]] => some (.tup [], [.box [.slc 1 L, .val (.int .i64 (oft k))]])
  | 50, [.box 0 0, .val (.int .i64 _)], [.box [_, .val (.int .i64 k)]] => some (pR (io k) (.tup []), [.box [.slc 1 L, .val (.int .i64 (ik k))]])
  | 27, [.box 0 0, .val (.int .i64 _)], [.box [_, .val (.int .i64 k)]] => some (pR (go k) (.tup []), [.box [.slc 1 L, .val (.int .i64 (gk k))]])
  | 26, [.box 0 0], [.box [_, .val (.int .i64 k)]] => some (pR (mo k) (.tup []), [.box [.slc 1 L, .val (.int .i64 (mk k))]])
  | 28, [.val (.bool b)], _ => some (pR b (.tup []), [])
  | 28, [.kb true], _ => some (.tup [], [])
  | 28, [.kb false], _ => some (.tup [.dead, .val wrongV], [])
  | _, _, _ => none
theorem nx_no {l : List Int} {k : Int} {s : ByteArray} (h : sdI l k s = false) : nxI l k s = k := by rw [nxI, if_neg (by rw [h]; decide)]
theorem often_b (l : List Int) (hl : l.length ≤ 1000000) (k : Int) (hk : Pla l k) : BCall Tryz.prog 51 [.box 0 0] [rdB l k] (.tup []) [rdB l (oftI l k)] := by
  have c := fun s hs => next_b l hl k hk s hs
  have hno := fun s => @nx_no l k s
  unfold oftI
  generalize sdI l = st at *
  generalize nxI l = nx at *
  unfold rdB at *
  obtain ⟨sp, sc, nc, oft, wq, wk, ok, wt, io⟩ : (Int → Int) × (Int → Int) × (Int → Int) × (Int → Int) × (Int → ByteArray → Bool) × (Int → ByteArray → Int) × (Int → Bool) × (Int → ByteArray) × (Int → Bool) := ⟨fun k => k, fun k => k, fun k => k, fun k => k, fun _ _ => true, fun k _ => k, fun _ => true, fun _ => ⟨⟨[]⟩⟩, fun _ => true⟩
  refine fnN (csKR (runesA l) sp sc nc oft st nx wq wk ok wt io io io sp sp sp) Tryz.func51 rfl fun _ _ => ?_
  with_reducible refine cv1 (runesA l) ?_
  refine ⟨c _ (by decide), fun h => ?_, fun h => ?_⟩
  · rw [if_pos h]
    refine ⟨[some 0], _, _, rfl, rfl, Nat.le_refl _, rfl, ?_, leA_refl rfl⟩
    exact eq0
  rw [if_neg (by rw [h]; decide), hno _ h]
  refine ⟨c _ (by decide), fun h => ?_, fun h => ?_⟩
  · rw [if_pos h]
    refine ⟨[some 0], _, _, rfl, rfl, Nat.le_refl _, rfl, ?_, leA_refl rfl⟩
    exact eq0
  rw [if_neg (by rw [h]; decide), hno _ h]
  refine ⟨c _ (by decide), ?_⟩
  refine ⟨[some 0], _, _, rfl, rfl, Nat.le_refl _, rfl, ?_, leA_refl rfl⟩
  exact eq0
abbrev RdF (l : List Int) (f : Nat) (args : List AV) (res : AV) (k : Int) (R : Option Int) : Prop := BEnd Tryz.prog f args [rdB l k] wrongV (rdR (runesA l) res R)
theorem rd_some {l : List Int} {f : Nat} {args : List AV} {res : AV} {k : Int} {R : Option Int} (h : RdF l f args res k R) (hs : R.isSome = true) : BCall Tryz.prog f args [rdB l k] res [.box [.slc 1 (runesA l), .val (.int .i64 (R.getD 0))]] := by
  cases R with
  | none => cases hs
  | some k2 => exact h
theorem rd_none {l : List Int} {f : Nat} {args : List AV} {res : AV} {k : Int} {R : Option Int} (h : RdF l f args res k R) (hs : R.isSome = false) : BPan Tryz.prog f args [rdB l k] wrongV := by
  cases R with
  | none => exact h
  | some k2 => cases hs
def Fu (l : List Int) (k : Int) (f : Nat) : Prop := (l.length : Int) - k < f
theorem group_b (l : List Int) (hl : l.length ≤ 1000000) (d : Int) (hd : 0 ≤ d ∧ d ≤ 64) (it : Int → Option Int) (hit : ItOk l it) (cI : ∀ k, Pla l k → RdF l 50 [.box 0 0, .val (.int .i64 d)] (.tup []) k (it k)) (k : Int) (hk : Pla l k) :
    RdF l 27 [.box 0 0, .val (.int .i64 d)] (.tup []) k (grI l it k) := by
  have cS := space_b l hl
  have cN := next_b l hl
  have cT := take_b l hl
  have cO := often_b l hl
  have hno := @nx_no l
  have cTc : ∀ k s, Pla l k → s.size ≤ 1000 → sdI l k s = true → BCall Tryz.prog 23 [.box 0 0, .val (.string s)] [rdB l k] (.tup []) [rdB l (nxI l k s)] := fun k s h1 h2 h => by
    have := cT k h1 s h2
    rw [if_pos h] at this
    rw [nxI, if_pos h]; exact this
  have cTp : ∀ k s, Pla l k → s.size ≤ 1000 → sdI l k s = false → BPan Tryz.prog 23 [.box 0 0, .val (.string s)] [rdB l k] wrongV := fun k s h1 h2 h => by
    have := cT k h1 s h2
    rw [if_neg (by rw [h]; decide)] at this
    exact this
  obtain ⟨R, hR⟩ : ∃ R, R = grI l it k := ⟨_, rfl⟩
  rw [← hR]
  unfold grI at hR
  obtain ⟨sc, hsc⟩ : ∃ sc, sc = fun k => skI l k - k := ⟨_, rfl⟩
  obtain ⟨io, hio⟩ : ∃ io, io = fun k => (it k).isSome := ⟨_, rfl⟩
  obtain ⟨ik, hik⟩ : ∃ ik, ik = fun k => (it k).getD 0 := ⟨_, rfl⟩
  have cS : ∀ k, Pla l k → BCall Tryz.prog 24 [.box 0 0] [rdB l k] (.val (.int .i64 (sc k))) [rdB l (skI l k)] := fun k h => by rw [hsc]; exact cS k h
  have c1 : ∀ k, Pla l k → io k = true → BCall Tryz.prog 50 [.box 0 0, .val (.int .i64 d)] [rdB l k] (.tup []) [rdB l (ik k)] := fun k h h2 => by rw [hio] at h2; rw [hik]; exact rd_some (cI k h) h2
  have c0 : ∀ k, Pla l k → io k = false → BPan Tryz.prog 50 [.box 0 0, .val (.int .i64 d)] [rdB l k] wrongV := fun k h h2 => by rw [hio] at h2; exact rd_none (cI k h) h2
  have i1 : ∀ k, io k = true → it k = some (ik k) := fun k h => by
    rw [hio] at h; rw [hik]
    cases hx : it k with
    | none => simp only [hx] at h; cases h
    | some x => simp only [hx]; rfl
  have i0 : ∀ k, io k = false → it k = none := fun k h => by
    rw [hio] at h
    cases hx : it k with
    | none => rfl
    | some x => simp only [hx] at h; cases h
  clear cI hsc hio hik
  unfold RdF rdB at *
  obtain ⟨wq, wk, ok, wt⟩ : (Int → ByteArray → Bool) × (Int → ByteArray → Int) × (Int → Bool) × (Int → ByteArray) := ⟨fun _ _ => true, fun k _ => k, fun _ => true, fun _ => ⟨⟨[]⟩⟩⟩
  refine fnE _ _ (csKR (runesA l) (skI l) sc (skI l) (oftI l) (sdI l) (nxI l) wq wk ok wt io io io ik ik ik) (fun _ => .nil) Tryz.func27 rfl fun _ _ => ?_
  with_reducible refine cv5 (runesA l) (skI l) (oftI l) (sdI l) (nxI l) ?_
  have hle : std.leI d 64 = true := decide_eq_true hd.2
  refine ⟨fun h => ⟨must_c h, cS k hk, fun h2 => ⟨c1 _ hk.sp h2, cS _ (hit _ _ hk.sp (i1 _ h2)).2, ?_⟩, fun h2 => ⟨c0 _ hk.sp h2, fun _ => .pan ?_⟩⟩, fun h => absurd (hle.symm.trans h) Bool.noConfusion⟩
  rotate_left
  · rw [i0 _ h2] at hR; rw [hR]; rfl
  rw [i1 _ h2] at hR
  simp only at hR
  have hk0 : Pla l (skI l (ik (skI l k))) := (hit _ _ hk.sp (i1 _ h2)).2.sp
  generalize skI l (ik (skI l k)) = k0 at *
  refine loopN (csKR (runesA l) (skI l) sc (skI l) (oftI l) (sdI l) (nxI l) wq wk ok wt io io io ik ik ik) (ByteArray × Int × Nat) (fun x => ⟨[(0, .box 0 0), (1, .val (.int .i64 d)), (4, .val (.string x.1))], [.box [.slc 1 (runesA l), .val (.int .i64 x.2.1)]]⟩) (fun x => x.1.size ≤ 1 ∧ Pla l x.2.1 ∧ Fu l x.2.1 x.2.2 ∧ (lpI l it x.2.2 x.1 x.2.1).map (oftI l) = R) (fun x => x.2.2) (⟨⟨[]⟩⟩, k0, l.length + 1) ?_ ?_ ?_
  · exact ⟨Nat.zero_le 1, hk0, by show (l.length : Int) - k0 < ((l.length + 1 : Nat) : Int); have := hk0.1; omega, hR.symm⟩
  · refine ⟨[some 0], _, rfl, ?_⟩
    exact eq0
  · rintro ⟨sg, k3, f⟩ ⟨h0, h1, h2, h3⟩
    have h0 : sg.size ≤ 1 := h0
    have h1 : Pla l k3 := h1
    have h2 : Fu l k3 f := h2
    have h3 : (lpI l it f sg k3).map (oftI l) = R := h3
    cases f with
    | zero => exact absurd h2 (by unfold Fu Pla at *; omega)
    | succ f =>
      unfold lpI at h3
      have key : sdI l k3 ⟨⟨[41]⟩⟩ = false → ∀ sg' k4, sgI l sg k3 = some (sg', k4) → sg'.size ≤ 1 ∧ Pla l k4 ∧ (io (skI l k4) = true → Pla l (ik (skI l k4)) ∧ Fu l (skI l (ik (skI l k4))) f ∧ (lpI l it f sg' (skI l (ik (skI l k4)))).map (oftI l) = R) ∧ (io (skI l k4) = false → R = none) := fun hb sg' k4 hs => by
        obtain ⟨a1, a2, a3⟩ := sg_ok h1 hs h0
        simp only at a1 a2 a3
        rw [if_neg (by rw [hb]; decide), hs] at h3
        simp only at h3
        refine ⟨a3, a2, fun hi => ?_, fun hi => ?_⟩
        · rw [i1 _ hi] at h3
          obtain ⟨a4, a5⟩ := hit _ _ a2.sp (i1 _ hi)
          have := sp_ge l k4
          have := sp_ge l (ik (skI l k4))
          exact ⟨a5, by unfold Fu at *; omega, h3⟩
        · rw [i0 _ hi] at h3; exact h3.symm
      have nokey : sdI l k3 ⟨⟨[41]⟩⟩ = false → sgI l sg k3 = none → R = none := fun hb hs => by
        rw [if_neg (by rw [hb]; decide), hs] at h3; exact h3.symm
      simp only
      with_reducible refine cv5 (runesA l) (skI l) (oftI l) (sdI l) (nxI l) ?_
      refine ⟨cN k3 h1 _ (by decide), fun hb => ?_, fun hb => ?_⟩
      · have hb : sdI l k3 ⟨⟨[41]⟩⟩ = false := by have h : (!sdI l k3 ⟨⟨[41]⟩⟩) = true := hb; simpa using h
        rw [hno hb]
        refine ⟨fun he => ⟨fun ht => ⟨cTc _ _ h1 (by omega) ht, ?_⟩, fun ht => ⟨cTp _ _ h1 (by omega) ht, fun _ => .pan ?_⟩⟩, fun he => ⟨cN _ h1 _ (by decide), fun hp => ?_, fun hp => ?_⟩⟩
        · have he : std.eqS sg ⟨⟨[]⟩⟩ = false := by have h : (!std.eqS sg ⟨⟨[]⟩⟩) = true := he; simpa using h
          obtain ⟨a, b, c, e⟩ := key hb sg (nxI l k3 sg) (by rw [sgI, if_pos he, if_pos ht])
          refine ⟨cS _ b, fun hi => ⟨c1 _ b.sp hi, cS _ (c hi).1, (sg, _, f), ⟨a, (c hi).1.sp, (c hi).2.1, (c hi).2.2⟩, Nat.lt_succ_self f, [some 0], _, rfl, ?_⟩, fun hi => ⟨c0 _ b.sp hi, fun _ => .pan (by rw [e hi]; rfl)⟩⟩
          exact eq0
        · have he : std.eqS sg ⟨⟨[]⟩⟩ = false := by have h : (!std.eqS sg ⟨⟨[]⟩⟩) = true := he; simpa using h
          rw [nokey hb (by rw [sgI, if_pos he, if_neg (by rw [ht]; decide)])]; rfl
        · have he : ¬ std.eqS sg ⟨⟨[]⟩⟩ = false := by have h : (!std.eqS sg ⟨⟨[]⟩⟩) = false := he; simpa using h
          obtain ⟨a, b, c, e⟩ := key hb ⟨⟨[124]⟩⟩ (nxI l k3 ⟨⟨[124]⟩⟩) (by rw [sgI, if_neg he, if_pos hp])
          refine ⟨cS _ b, fun hi => ⟨c1 _ b.sp hi, cS _ (c hi).1, (⟨⟨[124]⟩⟩, _, f), ⟨a, (c hi).1.sp, (c hi).2.1, (c hi).2.2⟩, Nat.lt_succ_self f, [some 0], _, rfl, ?_⟩, fun hi => ⟨c0 _ b.sp hi, fun _ => .pan (by rw [e hi]; rfl)⟩⟩
          exact eq0
        · have he : ¬ std.eqS sg ⟨⟨[]⟩⟩ = false := by have h : (!std.eqS sg ⟨⟨[]⟩⟩) = false := he; simpa using h
          rw [hno hp]
          refine ⟨fun hc => ⟨cTc _ _ h1 (by decide) hc, ?_⟩, fun hc => ⟨cTp _ _ h1 (by decide) hc, fun _ => .pan ?_⟩⟩
          · obtain ⟨a, b, c, e⟩ := key hb ⟨⟨[44]⟩⟩ (nxI l k3 ⟨⟨[44]⟩⟩) (by rw [sgI, if_neg he, if_neg (by rw [hp]; decide), if_pos hc])
            refine ⟨cS _ b, fun hi => ⟨c1 _ b.sp hi, cS _ (c hi).1, (⟨⟨[44]⟩⟩, _, f), ⟨a, (c hi).1.sp, (c hi).2.1, (c hi).2.2⟩, Nat.lt_succ_self f, [some 0], _, rfl, ?_⟩, fun hi => ⟨c0 _ b.sp hi, fun _ => .pan (by rw [e hi]; rfl)⟩⟩
            exact eq0
          · rw [nokey hb (by rw [sgI, if_neg he, if_neg (by rw [hp]; decide), if_neg (by rw [hc]; decide)])]; rfl
      · have hb : sdI l k3 ⟨⟨[41]⟩⟩ = true := by have h : (!sdI l k3 ⟨⟨[41]⟩⟩) = false := hb; simpa using h
        rw [if_pos hb] at h3
        rw [if_pos trivial]
        with_reducible refine cv5 (runesA l) (skI l) (oftI l) (sdI l) (nxI l) ?_
        refine ⟨cO _ h1.nx, .ok (by rw [← h3]; rfl) ?_⟩
        refine ⟨[some 0], _, _, rfl, rfl, Nat.le_refl _, rfl, ?_, leA_refl rfl⟩
        exact eq0
end Go.Proofs.YtdmbfngenffcaaaGreat
namespace Go.Proofs.YtdmbfngenffcaaaGreat
open Go.RowKit Go.Lib
theorem group_no (l : List Int) (k : Int) : RdF l 27 [.box 0 0, .val (.int .i64 65)] (.tup []) k none := by
  obtain ⟨sc, wq, wk, wt, io, ik⟩ : (Int → Int) × (Int → ByteArray → Bool) × (Int → ByteArray → Int) × (Int → ByteArray) × (Int → Bool) × (Int → Int) := ⟨fun k => k, fun _ _ => true, fun k _ => k, fun _ => ⟨⟨[]⟩⟩, fun _ => true, fun k => k⟩
  unfold RdF rdB
  refine fnE _ _ (csKR (runesA l) ik sc ik ik (sdI l) wk wq wk io wt io io io ik ik ik) (fun _ => .nil) Tryz.func27 rfl fun _ _ => ?_
  with_reducible refine cv2 (runesA l) (sdI l) ?_
  have hle : std.leI 65 64 = false := by decide
  refine ⟨fun h => absurd (hle.symm.trans h) Bool.noConfusion, fun h => ⟨must_p h, fun _ => .pan rfl⟩⟩
theorem item_w (l : List Int) (hl : l.length ≤ 1000000) (d : Int) (hd : 0 ≤ d ∧ d ≤ 64) (gr : Int → Option Int) (cG : ∀ k, Pla l k → RdF l 27 [.box 0 0, .val (.int .i64 (d + 1))] (.tup []) k (gr k)) (k : Int) (hk : Pla l k) :
    RdF l 50 [.box 0 0, .val (.int .i64 d)] (.tup []) k (if sdI l k ⟨⟨[40]⟩⟩ = true then gr (nxI l k ⟨⟨[40]⟩⟩) else if okN l k = true then some (oftI l (ncI l k)) else none) := by
  have cN := next_b l hl
  have cM := dname_b l hl
  have cO := often_b l hl
  have hno := @nx_no l
  obtain ⟨R, hR⟩ : ∃ R, R = (if sdI l k ⟨⟨[40]⟩⟩ = true then gr (nxI l k ⟨⟨[40]⟩⟩) else if okN l k = true then some (oftI l (ncI l k)) else none) := ⟨_, rfl⟩
  rw [← hR]
  obtain ⟨io, hio⟩ : ∃ io, io = fun k => (gr k).isSome := ⟨_, rfl⟩
  obtain ⟨ik, hik⟩ : ∃ ik, ik = fun k => (gr k).getD 0 := ⟨_, rfl⟩
  have hd1 : std.add d 1 = d + 1 := rfl
  have c1 : ∀ k, Pla l k → io k = true → BCall Tryz.prog 27 [.box 0 0, .val (.int .i64 (d + 1))] [rdB l k] (.tup []) [rdB l (ik k)] := fun k h h2 => by rw [hio] at h2; rw [hik]; exact rd_some (cG k h) h2
  have c0 : ∀ k, Pla l k → io k = false → BPan Tryz.prog 27 [.box 0 0, .val (.int .i64 (d + 1))] [rdB l k] wrongV := fun k h h2 => by rw [hio] at h2; exact rd_none (cG k h) h2
  have i1 : ∀ k, io k = true → gr k = some (ik k) := fun k h => by
    rw [hio] at h; rw [hik]
    cases hx : gr k with
    | none => simp only [hx] at h; cases h
    | some x => simp only [hx]; rfl
  have i0 : ∀ k, io k = false → gr k = none := fun k h => by
    rw [hio] at h
    cases hx : gr k with
    | none => rfl
    | some x => simp only [hx] at h; cases h
  have m1 : okN l k = true → BCall Tryz.prog 49 [.box 0 0] [rdB l k] (.val (.string (wtB l k))) [rdB l (ncI l k)] := fun h => (cM k hk).call (by rw [if_pos h]; rfl)
  have m0 : okN l k = false → BPan Tryz.prog 49 [.box 0 0] [rdB l k] wrongV := fun h => (cM k hk).pan (by rw [if_neg (by rw [h]; decide)]; rfl)
  clear cG cM hio hik
  obtain ⟨sc, wq, wk⟩ : (Int → Int) × (Int → ByteArray → Bool) × (Int → ByteArray → Int) := ⟨fun k => k, fun _ _ => true, fun k _ => k⟩
  unfold RdF rdB at *
  refine fnE _ _ (csKR (runesA l) sc sc (ncI l) (oftI l) (sdI l) (nxI l) wq wk (okN l) (wtB l) io io io ik ik ik) (fun _ => .nil) Tryz.func50 rfl fun _ _ => ?_
  with_reducible refine cv7 (runesA l) (ncI l) (oftI l) (sdI l) (nxI l) (okN l) (wtB l) ?_
  refine ⟨cN k hk _ (by decide), fun hb => ⟨?_, fun hi => ⟨c1 _ hk.nx hi, ?_⟩, fun hi => ⟨c0 _ hk.nx hi, fun _ => .pan (by rw [hR, if_pos hb, i0 _ hi]; rfl)⟩⟩, fun hb => ?_⟩
  · show std.inR .i64 (d + 1)
    rw [inR64]; omega
  · refine .ok (by rw [hR, if_pos hb, i1 _ hi]; rfl) ⟨[some 0], _, _, rfl, rfl, Nat.le_refl _, rfl, ?_, leA_refl rfl⟩
    exact eq0
  · have hb : sdI l k ⟨⟨[40]⟩⟩ = false := hb
    rw [if_neg (by rw [hb]; decide)] at hR
    rw [hno hb]
    refine ⟨fun hn => ⟨m1 hn, cO _ hk.nc, ?_⟩, fun hn => ⟨m0 hn, fun _ => .pan (by rw [hR, if_neg (by rw [hn]; decide)]; rfl)⟩⟩
    refine .ok (by rw [hR, if_pos hn]; rfl) ⟨[some 0], _, _, rfl, rfl, Nat.le_refl _, rfl, ?_, leA_refl rfl⟩
    exact eq0
theorem item_b (l : List Int) (hl : l.length ≤ 1000000) : ∀ (n : Nat) (d : Int), d = 64 - n → 0 ≤ d → ∀ k, Pla l k → RdF l 50 [.box 0 0, .val (.int .i64 d)] (.tup []) k (itI l n k)
  | 0, d, hd, h0, k, hk => by
    obtain rfl : d = 64 := by omega
    have := item_w l hl 64 (by decide) (fun _ => none) (fun k _ => group_no l k) k hk
    unfold itI
    exact this
  | n + 1, d, hd, h0, k, hk => by
    have hd1 : d + 1 = 64 - (n : Int) := by omega
    have := item_w l hl d (by omega) (grI l (itI l n)) (fun k hk => group_b l hl (d + 1) (by omega) (itI l n) (it_ok l n) (item_b l hl n (d + 1) hd1 (by omega)) k hk) k hk
    unfold itI
    exact this
def lpM (l : List Int) : Nat → Int → Int → Option (Int × Int)
  | 0, _, _ => none
  | f + 1, nm, k => if sdI l k ⟨⟨[124]⟩⟩ = true then (if okN l (skI l (nxI l k ⟨⟨[124]⟩⟩)) = true then lpM l f (nm + 1) (skI l (ncI l (skI l (nxI l k ⟨⟨[124]⟩⟩)))) else none) else some (nm, k)
def mxE (l : List Int) (q : Int × Int) : Option Int :=
  if sdI l q.2 ⟨⟨[41]⟩⟩ = true then (if sdI l (nxI l q.2 ⟨⟨[41]⟩⟩) ⟨⟨[42]⟩⟩ = true then some (nxI l (nxI l q.2 ⟨⟨[41]⟩⟩) ⟨⟨[42]⟩⟩) else if q.1 = 0 then some (nxI l q.2 ⟨⟨[41]⟩⟩) else none) else none
def mixI (l : List Int) (k : Int) : Option Int := (lpM l (l.length + 1) 0 (skI l k)).bind (mxE l)
theorem mixed_b (l : List Int) (hl : l.length ≤ 1000000) (k : Int) (hk : Pla l k) : RdF l 26 [.box 0 0] (.tup []) k (mixI l k) := by
  have cS := space_b l hl
  have cN := next_b l hl
  have cT := take_b l hl
  have cM := dname_b l hl
  have hno := @nx_no l
  have m1 : ∀ k, Pla l k → okN l k = true → BCall Tryz.prog 49 [.box 0 0] [rdB l k] (.val (.string (wtB l k))) [rdB l (ncI l k)] := fun k hk h => (cM k hk).call (by rw [if_pos h]; rfl)
  have m0 : ∀ k, Pla l k → okN l k = false → BPan Tryz.prog 49 [.box 0 0] [rdB l k] wrongV := fun k hk h => (cM k hk).pan (by rw [if_neg (by rw [h]; decide)]; rfl)
  have cTc : ∀ k s, Pla l k → s.size ≤ 1000 → sdI l k s = true → BCall Tryz.prog 23 [.box 0 0, .val (.string s)] [rdB l k] (.tup []) [rdB l (nxI l k s)] := fun k s h1 h2 h => by
    have := cT k h1 s h2
    rw [if_pos h] at this
    rw [nxI, if_pos h]; exact this
  have cTp : ∀ k s, Pla l k → s.size ≤ 1000 → sdI l k s = false → BPan Tryz.prog 23 [.box 0 0, .val (.string s)] [rdB l k] wrongV := fun k s h1 h2 h => by
    have := cT k h1 s h2
    rw [if_neg (by rw [h]; decide)] at this
    exact this
  obtain ⟨R, hR⟩ : ∃ R, R = mixI l k := ⟨_, rfl⟩
  rw [← hR]
  unfold mixI at hR
  obtain ⟨sc, hsc⟩ : ∃ sc, sc = fun k => skI l k - k := ⟨_, rfl⟩
  have cS : ∀ k, Pla l k → BCall Tryz.prog 24 [.box 0 0] [rdB l k] (.val (.int .i64 (sc k))) [rdB l (skI l k)] := fun k h => by rw [hsc]; exact cS k h
  clear cM cT hsc
  obtain ⟨wq, wk, io, ik⟩ : (Int → ByteArray → Bool) × (Int → ByteArray → Int) × (Int → Bool) × (Int → Int) := ⟨fun _ _ => true, fun k _ => k, fun _ => true, fun k => k⟩
  unfold RdF rdB at *
  have hk0 := hk.sp
  refine fnE _ _ (csKR (runesA l) (skI l) sc (ncI l) ik (sdI l) (nxI l) wq wk (okN l) (wtB l) io io io ik ik ik) (fun _ => .nil) Tryz.func26 rfl fun _ _ => ?_
  with_reducible refine cv7 (runesA l) (skI l) (ncI l) (sdI l) (nxI l) (okN l) (wtB l) ?_
  refine ⟨cS k hk, ?_⟩
  generalize skI l k = k0 at *
  refine loopN (csKR (runesA l) (skI l) sc (ncI l) ik (sdI l) (nxI l) wq wk (okN l) (wtB l) io io io ik ik ik) (Int × Int × Nat) (fun x => ⟨[(0, .box 0 0), (2, .val (.int .i64 x.1))], [.box [.slc 1 (runesA l), .val (.int .i64 x.2.1)]]⟩) (fun x => (0 ≤ x.1 ∧ x.1 ≤ x.2.1) ∧ Pla l x.2.1 ∧ Fu l x.2.1 x.2.2 ∧ (lpM l x.2.2 x.1 x.2.1).bind (mxE l) = R) (fun x => x.2.2) (0, k0, l.length + 1) ?_ ?_ ?_
  · exact ⟨⟨Int.le_refl 0, hk0.1⟩, hk0, by show (l.length : Int) - k0 < ((l.length + 1 : Nat) : Int); have := hk0.1; omega, hR.symm⟩
  · refine ⟨[some 0], _, rfl, ?_⟩
    exact eq0
  · rintro ⟨nm, k3, f⟩ ⟨⟨h00, h01⟩, h1, h2, h3⟩
    have h00 : 0 ≤ nm := h00
    have h01 : nm ≤ k3 := h01
    have h1 : Pla l k3 := h1
    have h2 : Fu l k3 f := h2
    have h3 : (lpM l f nm k3).bind (mxE l) = R := h3
    cases f with
    | zero => exact absurd h2 (by unfold Fu Pla at *; omega)
    | succ f =>
      unfold lpM at h3
      have hn1 : (std.inR .i64 (std.add nm 1)).q := by
        show std.inR .i64 (nm + 1)
        unfold Pla at h1
        rw [inR64]; omega
      have hlt : sdI l k3 ⟨⟨[124]⟩⟩ = true → k3 + 1 = nxI l k3 ⟨⟨[124]⟩⟩ := fun h => by rw [nxI, if_pos h]; rfl
      simp only
      with_reducible refine cv7 (runesA l) (skI l) (ncI l) (sdI l) (nxI l) (okN l) (wtB l) ?_
      refine ⟨cN k3 h1 _ (by decide), fun hb => ?_, fun hb => ?_⟩
      · rw [if_pos hb] at h3
        refine ⟨cS _ h1.nx, fun hn => ⟨m1 _ h1.nx.sp hn, hn1, cS _ h1.nx.sp.nc, (nm + 1, skI l (ncI l (skI l (nxI l k3 ⟨⟨[124]⟩⟩))), f), ⟨⟨?_, ?_⟩, h1.nx.sp.nc.sp, ?_, ?_⟩, Nat.lt_succ_self f, [some 0], _, rfl, ?_⟩, fun hn => ⟨m0 _ h1.nx.sp hn, fun _ => .pan (by rw [if_neg (by rw [hn]; decide)] at h3; rw [← h3]; rfl)⟩⟩
        · show 0 ≤ nm + 1; omega
        · have a1 := sp_ge l (nxI l k3 ⟨⟨[124]⟩⟩)
          have a2 := nc_ge l (skI l (nxI l k3 ⟨⟨[124]⟩⟩))
          have a3 := sp_ge l (ncI l (skI l (nxI l k3 ⟨⟨[124]⟩⟩)))
          have := hlt hb
          show nm + 1 ≤ skI l (ncI l (skI l (nxI l k3 ⟨⟨[124]⟩⟩)))
          omega
        · have a1 := sp_ge l (nxI l k3 ⟨⟨[124]⟩⟩)
          have a2 := nc_ge l (skI l (nxI l k3 ⟨⟨[124]⟩⟩))
          have a3 := sp_ge l (ncI l (skI l (nxI l k3 ⟨⟨[124]⟩⟩)))
          have := hlt hb
          show (l.length : Int) - skI l (ncI l (skI l (nxI l k3 ⟨⟨[124]⟩⟩))) < (f : Int)
          unfold Fu at h2
          omega
        · rw [if_pos hn] at h3; exact h3
        · exact eq0
      · rw [if_neg (by rw [show sdI l k3 ⟨⟨[124]⟩⟩ = false from hb]; decide)] at h3
        have h3 : mxE l (nm, k3) = R := h3
        unfold mxE at h3
        simp only at h3
        rw [hno hb, if_pos trivial]
        with_reducible refine cv7 (runesA l) (skI l) (ncI l) (sdI l) (nxI l) (okN l) (wtB l) ?_
        refine ⟨fun hc => ⟨cTc _ _ h1 (by decide) hc, cN _ h1.nx _ (by decide), fun hs => ⟨must_t, .ok (by rw [← h3, if_pos hc, if_pos hs]; rfl) ?_⟩, fun hs => ⟨fun hz => ⟨must_c hz, ?_⟩, fun hz => ⟨must_p hz, fun _ => .pan ?_⟩⟩⟩, fun hc => ⟨cTp _ _ h1 (by decide) hc, fun _ => .pan (by rw [← h3, if_neg (by rw [show sdI l k3 ⟨⟨[41]⟩⟩ = false from hc]; decide)]; rfl)⟩⟩
        · refine ⟨[some 0], _, _, rfl, rfl, Nat.le_refl _, rfl, ?_, leA_refl rfl⟩
          exact eq0
        · have hz : nm = 0 := by have h : (nm == 0) = true := hz; simpa using h
          refine .ok (by rw [← h3, if_pos hc, if_neg (by rw [show sdI l (nxI l k3 ⟨⟨[41]⟩⟩) ⟨⟨[42]⟩⟩ = false from hs]; decide), if_pos hz]; rfl) ⟨[some 0], _, _, rfl, rfl, Nat.le_refl _, rfl, ?_, leA_refl rfl⟩
          have e := hno hs
          exact eq1 e
        · have hz : ¬ nm = 0 := by have h : (nm == 0) = false := hz; simpa using h
          rw [← h3, if_pos hc, if_neg (by rw [show sdI l (nxI l k3 ⟨⟨[41]⟩⟩) ⟨⟨[42]⟩⟩ = false from hs]; decide), if_neg hz]; rfl
def contI (l : List Int) (k : Int) : Option Int :=
  if std.eqS (wtB l k) ⟨⟨[69, 77, 80, 84, 89]⟩⟩ = true then some (ncI l k)
  else if std.eqS (wtB l k) ⟨⟨[65, 78, 89]⟩⟩ = true then some (ncI l k)
  else if sdI l k ⟨⟨[40]⟩⟩ = true then
    (if sdI l (skI l (nxI l k ⟨⟨[40]⟩⟩)) ⟨⟨[35]⟩⟩ = true ∧ std.eqS (wtB l (nxI l (skI l (nxI l k ⟨⟨[40]⟩⟩)) ⟨⟨[35]⟩⟩)) ⟨⟨[80, 67, 68, 65, 84, 65]⟩⟩ = true then mixI l (ncI l (nxI l (skI l (nxI l k ⟨⟨[40]⟩⟩)) ⟨⟨[35]⟩⟩))
    else grI l (itI l 63) (nxI l k ⟨⟨[40]⟩⟩))
  else none
theorem get_some {o : Option Int} (h : o.isSome = true) : o = some (o.getD 0) := by
  cases o with
  | none => cases h
  | some x => rfl
theorem get_none {o : Option Int} (h : o.isSome = false) : o = none := by
  cases o with
  | none => rfl
  | some x => cases h
theorem content_b (l : List Int) (hl : l.length ≤ 1000000) (k : Int) (hk : Pla l k) : RdF l 14 [.box 0 0] (.tup []) k (contI l k) := by
  have cS := space_b l hl
  have cN := next_b l hl
  have cT := take_b l hl
  have cW := word_b l hl
  have hno := @nx_no l
  have cTc : ∀ k s, Pla l k → s.size ≤ 1000 → sdI l k s = true → BCall Tryz.prog 23 [.box 0 0, .val (.string s)] [rdB l k] (.tup []) [rdB l (nxI l k s)] := fun k s h1 h2 h => by
    have := cT k h1 s h2
    rw [if_pos h] at this
    rw [nxI, if_pos h]; exact this
  have cTp : ∀ k s, Pla l k → s.size ≤ 1000 → sdI l k s = false → BPan Tryz.prog 23 [.box 0 0, .val (.string s)] [rdB l k] wrongV := fun k s h1 h2 h => by
    have := cT k h1 s h2
    rw [if_neg (by rw [h]; decide)] at this
    exact this
  obtain ⟨R, hR⟩ : ∃ R, R = contI l k := ⟨_, rfl⟩
  rw [← hR]
  unfold contI at hR
  obtain ⟨sc, hsc⟩ : ∃ sc, sc = fun k => skI l k - k := ⟨_, rfl⟩
  obtain ⟨wq, hwq⟩ : ∃ wq, wq = fun k s => std.eqS (wtB l k) s := ⟨_, rfl⟩
  obtain ⟨wk, hwk⟩ : ∃ wk, wk = fun k s => if std.eqS (wtB l k) s = true then ncI l k else k := ⟨_, rfl⟩
  obtain ⟨go, hgo⟩ : ∃ go, go = fun k => (grI l (itI l 63) k).isSome := ⟨_, rfl⟩
  obtain ⟨gk, hgk⟩ : ∃ gk, gk = fun k => (grI l (itI l 63) k).getD 0 := ⟨_, rfl⟩
  obtain ⟨mo, hmo⟩ : ∃ mo, mo = fun k => (mixI l k).isSome := ⟨_, rfl⟩
  obtain ⟨mk, hmk⟩ : ∃ mk, mk = fun k => (mixI l k).getD 0 := ⟨_, rfl⟩
  have cS : ∀ k, Pla l k → BCall Tryz.prog 24 [.box 0 0] [rdB l k] (.val (.int .i64 (sc k))) [rdB l (skI l k)] := fun k h => by rw [hsc]; exact cS k h
  have cW : ∀ k, Pla l k → ∀ s, BCall Tryz.prog 22 [.box 0 0, .val (.string s)] [rdB l k] (.val (.bool (wq k s))) [rdB l (wk k s)] := fun k h s => by rw [hwq, hwk]; exact cW k h s
  have cG := fun k hk => group_b l hl 1 (by decide) (itI l 63) (it_ok l 63) (item_b l hl 63 1 (by decide) (by decide)) k hk
  have cX := fun k hk => mixed_b l hl k hk
  have g1 : ∀ k, Pla l k → go k = true → BCall Tryz.prog 27 [.box 0 0, .val (.int .i64 1)] [rdB l k] (.tup []) [rdB l (gk k)] ∧ grI l (itI l 63) k = some (gk k) := fun k h h2 => by
    rw [hgo] at h2; rw [hgk]
    exact ⟨rd_some (cG k h) h2, get_some h2⟩
  have g0 : ∀ k, Pla l k → go k = false → BPan Tryz.prog 27 [.box 0 0, .val (.int .i64 1)] [rdB l k] wrongV ∧ grI l (itI l 63) k = none := fun k h h2 => by
    rw [hgo] at h2
    exact ⟨rd_none (cG k h) h2, get_none h2⟩
  have x1 : ∀ k, Pla l k → mo k = true → BCall Tryz.prog 26 [.box 0 0] [rdB l k] (.tup []) [rdB l (mk k)] ∧ mixI l k = some (mk k) := fun k h h2 => by
    rw [hmo] at h2; rw [hmk]
    exact ⟨rd_some (cX k h) h2, get_some h2⟩
  have x0 : ∀ k, Pla l k → mo k = false → BPan Tryz.prog 26 [.box 0 0] [rdB l k] wrongV ∧ mixI l k = none := fun k h h2 => by
    rw [hmo] at h2
    exact ⟨rd_none (cX k h) h2, get_none h2⟩
  have w1 : ∀ k s, wq k s = true → std.eqS (wtB l k) s = true ∧ wk k s = ncI l k := fun k s h => by
    rw [hwq] at h; rw [hwk]; exact ⟨h, if_pos h⟩
  have w0 : ∀ k s, wq k s = false → ¬ std.eqS (wtB l k) s = true ∧ wk k s = k := fun k s h => by
    rw [hwq] at h; rw [hwk]
    have h2 : ¬ std.eqS (wtB l k) s = true := by rw [show std.eqS (wtB l k) s = false from h]; decide
    exact ⟨h2, if_neg h2⟩
  clear cG cX cT hsc hwq hwk hgo hgk hmo hmk
  obtain ⟨io, ik, wt⟩ : (Int → Bool) × (Int → Int) × (Int → ByteArray) := ⟨fun _ => true, fun k => k, fun _ => ⟨⟨[]⟩⟩⟩
  unfold RdF rdB at *
  refine fnE _ _ (csKR (runesA l) (skI l) sc (ncI l) ik (sdI l) (nxI l) wq wk io wt io go mo ik gk mk) (fun _ => .nil) Tryz.func14 rfl fun _ _ => ?_
  with_reducible refine cv5 (runesA l) (skI l) (ncI l) (sdI l) (nxI l) ?_
  have cGr : sdI l k ⟨⟨[40]⟩⟩ = true → R = grI l (itI l 63) (nxI l k ⟨⟨[40]⟩⟩) → (go (nxI l k ⟨⟨[40]⟩⟩) = true → R = some (gk (nxI l k ⟨⟨[40]⟩⟩))) ∧ (go (nxI l k ⟨⟨[40]⟩⟩) = false → R = none) := fun _ e =>
    ⟨fun h => by rw [e]; exact (g1 _ hk.nx h).2, fun h => by rw [e]; exact (g0 _ hk.nx h).2⟩
  refine ⟨cW k hk _, fun h => ?_, fun h => ?_⟩
  · obtain ⟨a, b⟩ := w1 _ _ h
    rw [b]; rw [if_pos a] at hR
    refine .ok (by rw [hR]; rfl) ⟨[some 0], _, _, rfl, rfl, Nat.le_refl _, rfl, ?_, leA_refl rfl⟩
    exact eq0
  obtain ⟨a, b⟩ := w0 _ _ h
  rw [b]; rw [if_neg a] at hR
  refine ⟨cW k hk _, fun h2 => ?_, fun h2 => ?_⟩
  · obtain ⟨a, b⟩ := w1 _ _ h2
    rw [b]; rw [if_pos a] at hR
    refine .ok (by rw [hR]; rfl) ⟨[some 0], _, _, rfl, rfl, Nat.le_refl _, rfl, ?_, leA_refl rfl⟩
    exact eq0
  obtain ⟨a2, b2⟩ := w0 _ _ h2
  rw [b2]; rw [if_neg a2] at hR
  refine ⟨fun h3 => ⟨cTc _ _ hk (by decide) h3, cS _ hk.nx, cN _ hk.nx.sp _ (by decide), fun h4 => ⟨cW _ hk.nx.sp.nx _, fun h5 => ?_, fun h5 => ?_⟩, fun h4 => ?_⟩, fun h3 => ⟨cTp _ _ hk (by decide) h3, fun _ => .pan (by rw [hR, if_neg (by rw [show sdI l k ⟨⟨[40]⟩⟩ = false from h3]; decide)]; rfl)⟩⟩
  · obtain ⟨a5, b5⟩ := w1 _ _ h5
    rw [b5]; rw [if_pos h3, if_pos ⟨h4, a5⟩] at hR
    refine ⟨fun h6 => ⟨(x1 _ hk.nx.sp.nx.nc h6).1, .ok (by rw [hR, (x1 _ hk.nx.sp.nx.nc h6).2]; rfl) ⟨[some 0], _, _, rfl, rfl, Nat.le_refl _, rfl, ?_, leA_refl rfl⟩⟩, fun h6 => ⟨(x0 _ hk.nx.sp.nx.nc h6).1, fun _ => .pan (by rw [hR, (x0 _ hk.nx.sp.nx.nc h6).2]; rfl)⟩⟩
    exact eq0
  · obtain ⟨a5, b5⟩ := w0 _ _ h5
    rw [if_pos h3, if_neg (fun q => a5 q.2)] at hR
    obtain ⟨e1, e0⟩ := cGr h3 hR
    refine ⟨fun h6 => ⟨(g1 _ hk.nx h6).1, .ok (by rw [e1 h6]; rfl) ⟨[some 0], _, _, rfl, rfl, Nat.le_refl _, rfl, ?_, leA_refl rfl⟩⟩, fun h6 => ⟨(g0 _ hk.nx h6).1, fun _ => .pan (by rw [e0 h6]; rfl)⟩⟩
    exact eq0
  · rw [if_pos h3, if_neg (fun q => by rw [show sdI l (skI l (nxI l k ⟨⟨[40]⟩⟩)) ⟨⟨[35]⟩⟩ = false from h4] at q; exact absurd q.1 (by decide))] at hR
    obtain ⟨e1, e0⟩ := cGr h3 hR
    refine ⟨fun h6 => ⟨(g1 _ hk.nx h6).1, .ok (by rw [e1 h6]; rfl) ⟨[some 0], _, _, rfl, rfl, Nat.le_refl _, rfl, ?_, leA_refl rfl⟩⟩, fun h6 => ⟨(g0 _ hk.nx h6).1, fun _ => .pan (by rw [e0 h6]; rfl)⟩⟩
    exact eq0
end Go.Proofs.YtdmbfngenffcaaaGreat
