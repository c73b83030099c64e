/- Lemmas, conditions told -/
import Derived.Test.YtaklahcbeldbhaaGreatDoorZR17
set_option linter.unusedSimpArgs false
set_option linter.unusedVariables false
namespace Go.Proofs.YtaklahcbeldbhaaGreatDoor
open Go.RowKit Go.Lib
theorem coF_old {l : List Node} (h : Wf l) (x : Node) : ∀ (f : Nat) (n : Int), 0 ≤ n → n < l.length → coF (l ++ [x]) f n = coF l f n
  | 0, _, _, _ => rfl
  | f + 1, n, h0, h1 => by
    simp only [coF, nodeAt_old h0 h1]
    congr 2
    refine List.map_congr_left fun k hk => ?_
    have := h n h0 h1 k hk
    exact coF_old h x f k this.1 (by omega)
theorem co_old {l : List Node} (h : Wf l) (x : Node) {n : Int} (h0 : 0 ≤ n) (h1 : n < l.length) : co (l ++ [x]) n = co l n := coF_old h x _ n h0 h1
def coL (l : List Node) (ks : List Int) : Nat := (ks.map (co l)).sum
theorem coL_old {l : List Node} (h : Wf l) (x : Node) {ks : List Int} (hk : InR l ks) : coL (l ++ [x]) ks = coL l ks :=
  congrArg List.sum (List.map_congr_left fun k hk' => co_old h x (hk k hk').1 (hk k hk').2)
theorem co_new {l : List Node} (h : Wf l) {x : Node} (hx : InR l x.kids) : co (l ++ [x]) l.length = 1 + coL l x.kids := by
  rw [co_eq (wf_add h hx) (by omega) (by simp only [List.length_append, List.length_singleton]; omega), nodeAt_new]
  exact congrArg (1 + ·) (coL_old h x hx)
theorem coL_app (l : List Node) (a b : List Int) : coL l (a ++ b) = coL l a + coL l b := by simp [coL]
theorem coL_one (l : List Node) (k : Int) : coL l [k] = co l k := by simp [coL]
def coK (l : List Node) (s : List Opn) : Nat := (s.map fun x => coL l x.kids).sum
theorem coK_app (l : List Node) (s : List Opn) (x : Opn) : coK l (s ++ [x]) = coK l s + coL l x.kids := by simp [coK]
theorem coK_old {l : List Node} (h : Wf l) (x : Node) {s : List Opn} (hs : ∀ y ∈ s, InR l y.kids) : coK (l ++ [x]) s = coK l s :=
  congrArg List.sum (List.map_congr_left fun y hy => coL_old h x (hs y hy))
def CoInv (m : Mk) : Prop := coK m.n m.s ≤ m.n.length
theorem co_push {m : Mk} (h : CoInv m) (nm : List Int) : CoInv { m with s := m.s ++ [⟨nm, []⟩] } := by
  show coK m.n (m.s ++ [⟨nm, []⟩]) ≤ _
  have h : coK m.n m.s ≤ m.n.length := h
  rw [coK_app]
  simpa [coL] using h
theorem co_leafkid {m : Mk} {X : List UInt8} {B D : Nat} (h : MkInv m X B D) (hc : CoInv m) (kind : Int) (bs : List UInt8) : CoInv (kidF m.n.length (addF (leafF kind bs) m)) := by
  obtain ⟨s0, hs0⟩ := top_split h.s1
  generalize topF m.s = y at hs0
  have hr := h.rng
  rw [hs0] at hr
  have hr0 : ∀ z ∈ s0, InR m.n z.kids := fun z hz => hr z (List.mem_append_left _ hz)
  have hry : InR m.n y.kids := hr y (by simp)
  have hx : InR m.n (leafF kind bs).kids := fun k hk => by cases hk
  have hc : coK m.n m.s ≤ m.n.length := hc
  rw [hs0, coK_app] at hc
  show coK (m.n ++ [leafF kind bs]) (kidS m.n.length m.s) ≤ (m.n ++ [leafF kind bs]).length
  rw [hs0, kid_app, coK_app, coL_app, coL_one, coK_old h.ar.wf _ hr0, coL_old h.ar.wf _ hry, co_new h.ar.wf hx]
  have : coL m.n (leafF kind bs).kids = 0 := rfl
  rw [this]
  simp only [List.length_append, List.length_singleton]
  omega
theorem co_shut {m : Mk} {X : List UInt8} {B D : Nat} (h : MkInv m X B D) (hc : CoInv m) (hs : 2 ≤ m.s.length) (kind : Int) (bs : List UInt8) : CoInv (shutF m.n.length (addF (leafF kind bs) m)) := by
  obtain ⟨s1, hs1⟩ := top_split h.s1
  generalize topF m.s = x at hs1
  have hl1 : 1 ≤ s1.length := by rw [hs1] at hs; simp at hs; omega
  obtain ⟨s0, hs0⟩ := top_split hl1
  generalize topF s1 = y at hs0
  subst hs0
  have ha1 := (ar_leaf h.ar kind bs).1
  have hr := h.rng
  rw [hs1] at hr
  have hr0 : ∀ z ∈ s0, InR m.n z.kids := fun z hz => hr z (List.mem_append_left _ (List.mem_append_left _ hz))
  have hry : InR m.n y.kids := hr y (List.mem_append_left _ (by simp))
  have hrx : InR m.n x.kids := hr x (by simp)
  have hx : InR m.n (leafF kind bs).kids := fun k hk => by cases hk
  have hks : InR (m.n ++ [leafF kind bs]) (x.kids ++ [(m.n.length : Int)]) := fun k hk => by
    rcases List.mem_append.1 hk with hk | hk
    · exact hrx.more _ k hk
    · obtain rfl : k = (m.n.length : Int) := by simpa using hk
      simp; omega
  obtain ⟨l1, hl⟩ : ∃ l1, l1 = m.n ++ [leafF kind bs] := ⟨_, rfl⟩
  obtain ⟨z, hz⟩ : ∃ z, z = branchF l1 21 (x.kids ++ [(m.n.length : Int)]) := ⟨_, rfl⟩
  have e1 : coL l1 (x.kids ++ [(m.n.length : Int)]) = coL m.n x.kids + 1 := by
    rw [hl, coL_app, coL_one, coL_old h.ar.wf _ hrx, co_new h.ar.wf hx]; rfl
  have eT : topF (kidF (m.n.length : Int) (addF (leafF kind bs) m)).s = ⟨x.name, x.kids ++ [(m.n.length : Int)]⟩ := by
    show topF (kidS m.n.length m.s) = _
    rw [hs1, kid_app, top_app]
  have en : (shutF m.n.length (addF (leafF kind bs) m)).n = l1 ++ [z] := by
    show (m.n ++ [leafF kind bs]) ++ [branchF (m.n ++ [leafF kind bs]) 21 (topF (kidF (m.n.length : Int) (addF (leafF kind bs) m)).s).kids] = _
    rw [eT, ← hl, ← hz]
  have es : (shutF m.n.length (addF (leafF kind bs) m)).s = s0 ++ [⟨y.name, y.kids ++ [(l1.length : Int)]⟩] := by
    show kidS ((m.n ++ [leafF kind bs]).length : Int) ((kidS m.n.length m.s).take ((kidS m.n.length m.s).length - 1)) = _
    have e2 : (kidS m.n.length m.s).take ((kidS m.n.length m.s).length - 1) = s0 ++ [y] := by
      rw [hs1, kid_app, show (s0 ++ [y] ++ [(⟨x.name, x.kids ++ [(m.n.length : Int)]⟩ : Opn)]).length - 1 = (s0 ++ [y]).length by simp]
      exact List.take_left
    rw [e2, kid_app, hl]
  rw [← hl] at ha1 hks
  have hzk : InR l1 z.kids := by rw [hz]; exact hks
  have hc : coK m.n m.s ≤ m.n.length := hc
  rw [hs1, coK_app, coK_app] at hc
  have up0 : coK (l1 ++ [z]) s0 = coK m.n s0 := by
    rw [coK_old ha1.wf z (fun q hq => by rw [hl]; exact (hr0 q hq).more _), hl, coK_old h.ar.wf _ hr0]
  have upy : coL (l1 ++ [z]) y.kids = coL m.n y.kids := by
    rw [coL_old ha1.wf z (by rw [hl]; exact hry.more _), hl, coL_old h.ar.wf _ hry]
  have hll : l1.length = m.n.length + 1 := by rw [hl]; simp
  show coK (shutF m.n.length (addF (leafF kind bs) m)).n (shutF m.n.length (addF (leafF kind bs) m)).s ≤ (shutF m.n.length (addF (leafF kind bs) m)).n.length
  rw [es, en, coK_app, coL_app, coL_one, up0, upy, co_new ha1.wf hzk]
  have ez : coL l1 z.kids = coL m.n x.kids + 1 := by rw [hz]; exact e1
  rw [ez]
  simp only [List.length_append, List.length_singleton]
  omega
structure MkI (m : Mk) (X : List UInt8) (B D : Nat) : Prop where
  i : MkInv m X B D
  c : CoInv m
section
variable {m : Mk} {X : List UInt8} {B D : Nat}
theorem MkI.lk (h : MkI m X B D) (t : Txt) (b : List UInt8) (kind f u : Int) : MkI (lkF t b kind f u m) (X ++ sliceF t b f u) (B + 1) D := ⟨inv_lk h.i t b kind f u, co_leafkid h.i h.c kind _⟩
theorem MkI.wrong (h : MkI m X B D) (t : Txt) (c f u : Int) : MkI (wrongF t c f u m) X B (D + 1) := ⟨inv_wrong h.i t c f u, h.c⟩
theorem MkI.start (h : MkI m X B D) (t : Txt) (b : List UInt8) (hr : t.r.length ≤ 1000000) (kind f u : Int) : MkI (startF' t b kind f u m) (X ++ sliceF t b f u) (B + 3) (D + 2) := by
  refine ⟨inv_start h.i t b hr kind f u, ?_⟩
  unfold startF'
  split
  · exact ((h.wrong t 5 f u).lk t b kind f u).c
  · exact co_leafkid (inv_push h.i (nameF' t f u) (Nat.le_trans (name_len t f u) hr)) (co_push h.c _) kind _
theorem MkI.miss (h : MkI m X B D) (hs : 2 ≤ m.s.length) (t : Txt) (a : Int) : MkI (missF t a m) X B D := ⟨(inv_miss h.i hs t a).1, co_shut (inv_wrong h.i t 4 a a) h.c hs 22 []⟩
end
theorem MkI.missGo (t : Txt) (f : Int) (k : Nat) {X : List UInt8} {B D : Nat} : ∀ (n : Nat) (m : Mk), MkI m X B D → k + 1 ≤ m.s.length → m.s.length ≤ n + k + 1 → MkI (missGo t f k n m) X B D ∧ (Go.Proofs.YtaklahcbeldbhaaGreatDoor.missGo t f k n m).s.length = k + 1
  | 0, m, h, h1, h2 => ⟨h, by show m.s.length = _; omega⟩
  | n + 1, m, h, h1, h2 => by
    show MkI (if _ then _ else _) X B D ∧ (if _ then _ else _ : Mk).s.length = _
    split
    · have h3 := inv_miss h.i (by omega) t f
      exact MkI.missGo t f k n _ (h.miss (by omega) t f) (by omega) (by omega)
    · exact ⟨h, by omega⟩
section
variable {m : Mk} {X : List UInt8} {B D : Nat}
theorem MkI.end_ (h : MkI m X B D) (t : Txt) (b : List UInt8) (kind f u : Int) : MkI (endF' t b kind f u m) (X ++ sliceF t b f u) (B + 1) (D + 1) := by
  refine ⟨inv_end h.i t b kind f u, ?_⟩
  unfold endF'
  have h1 := h.i.s1
  have h2 := opnFind_le m.s (nameF' t f u) (m.s.length - 1)
  simp only
  split
  · exact ((h.wrong t 3 f u).lk t b kind f u).c
  · obtain ⟨h3, h4⟩ := MkI.missGo t f (opnFind m.s (nameF' t f u) (m.s.length - 1)) m.s.length m h (by omega) (by omega)
    exact co_shut h3.i h3.c (by omega) kind _
theorem MkI.token (h : MkI m X B D) (t : Txt) (b : List UInt8) (hr : t.r.length ≤ 1000000) (kind f u : Int) (wh : Bool) : MkI (tokenF t b kind f u wh m) (X ++ sliceF t b f u) (B + 3) (D + 3) := by
  refine ⟨inv_token h.i t b hr kind f u wh, ?_⟩
  unfold tokenF
  simp only
  generalize hm1 : (if wh = false then wrongF t 1 f u m else if (kind = 8 ∨ kind = 9 ∨ kind = 10) ∧ (readF t.r f u).right = false then wrongF t 2 f u m else m) = m1
  have h1 : ∃ D', MkI m1 X B D' := by
    rw [← hm1]
    split
    · exact ⟨_, h.wrong t 1 f u⟩
    · split
      · exact ⟨_, h.wrong t 2 f u⟩
      · exact ⟨_, h⟩
  obtain ⟨D', h1⟩ := h1
  split
  · exact (h1.start t b hr kind f u).c
  · split
    · exact (h1.end_ t b kind f u).c
    · exact (h1.lk t b kind f u).c
end
theorem inv_toks {t : Txt} {b : List UInt8} (ok : TxtOk t b) (hr : t.r.length ≤ 1000000) : ∀ (n k : Nat) (m : Mk) (B D : Nat), t.r.length - k ≤ n → k ≤ t.r.length → MkI m (upTo t b k) B D →
    MkI ((toksGo t.r k).foldl (tokM t b) m) b (B + 3 * n) (D + 3 * n)
  | 0, k, m, B, D, h, hk, hi => by
    rw [toksGo_nil (by omega)]
    have : k = t.r.length := by omega
    subst this
    rw [upTo_end ok] at hi
    exact hi
  | n + 1, k, m, B, D, h, hk, hi => by
    by_cases hlt : k < t.r.length
    · obtain ⟨h1, h2, h3, h4⟩ := tok_in t.r hlt
      rw [toksGo_cons hlt, List.foldl_cons]
      have := hi.token t b hr (tokAt t.r k).kind (tokAt t.r k).from_ (tokAt t.r k).to (tokAt t.r k).whole
      rw [h1, h2, upTo_slice ok (by omega) (by omega) (by omega)] at this
      have h5 := inv_toks ok hr n (nextTF t.r k).2.1 _ (B + 3) (D + 3) (by omega) h4 this
      rw [show B + 3 * (n + 1) = B + 3 + 3 * n by omega, show D + 3 * (n + 1) = D + 3 + 3 * n by omega]
      have e : tokM t b m (tokAt t.r k) = tokenF t b (tokAt t.r k).kind k ((nextTF t.r k).2.1 : Nat) (tokAt t.r k).whole m := rfl
      rw [e]
      exact h5
    · rw [toksGo_nil hlt]
      have : k = t.r.length := by omega
      subst this
      rw [upTo_end ok] at hi
      exact ⟨hi.i.mono (by omega) (by omega), hi.c⟩
theorem inv_all {t : Txt} {b : List UInt8} (ok : TxtOk t b) (hr : t.r.length ≤ 1000000) {m : Mk} {B D : Nat} (hi : MkI m (upTo t b 0) B D) :
    MkI (allM t b m) b (B + 3 * t.r.length) (D + 3 * t.r.length) ∧ (allM t b m).s.length = 1 := by
  have h1 := inv_toks ok hr t.r.length 0 m B D (by omega) (by omega) hi
  have h2 := h1.i.s1
  obtain ⟨h3, h4⟩ := MkI.missGo t t.r.length 0 _ _ h1 (by omega) (Nat.le_succ _)
  exact ⟨h3, h4⟩
theorem root_prints {b : List UInt8} {m : Mk} {B D : Nat} (hi : MkI m b B D) (h1 : m.s.length = 1) :
    Ar (rootM m).n ∧ pr (rootM m).n m.n.length = b ∧ (nodeAt (rootM m).n m.n.length).width = b.length ∧ co (rootM m).n m.n.length ≤ 1 + m.n.length := by
  have hk := hi.i.top
  obtain ⟨ha, hp⟩ := ar_branch hi.i.ar 20 hk
  obtain ⟨s0, hs0⟩ := top_split hi.i.s1
  have hs : s0 = [] := by
    rw [hs0] at h1
    exact List.eq_nil_of_length_eq_zero (by simpa using h1)
  subst hs
  have hX : (topF m.s).kids.flatMap (pr m.n) = b := by
    have := hi.i.p
    rw [hs0] at this
    generalize topF m.s = y at *
    simpa [prK] using this
  have hC : coL m.n (topF m.s).kids ≤ m.n.length := by
    have h2 : coK m.n m.s ≤ m.n.length := hi.c
    rw [hs0] at h2
    generalize topF m.s = y at *
    simpa [coK] using h2
  have hlen : (m.n.length : Int) < ((rootM m).n.length : Int) := by
    show (m.n.length : Int) < ((m.n ++ [_]).length : Int)
    simp only [List.length_append, List.length_singleton]; omega
  have e2 : pr (rootM m).n m.n.length = b := by
    show pr (m.n ++ [_]) _ = _
    rw [hp, hX]
  refine ⟨ha, e2, ?_, ?_⟩
  · have := ha.wide m.n.length (by omega) hlen
    have e3 : (nodeAt (rootM m).n m.n.length).width = ((pr (rootM m).n m.n.length).length : Int) := this
    rw [e3, e2]
  · show co (m.n ++ [branchF m.n 20 (topF m.s).kids]) m.n.length ≤ _
    rw [co_new hi.i.ar.wf (x := branchF m.n 20 (topF m.s).kids) hk]
    have : coL m.n (branchF m.n 20 (topF m.s).kids).kids ≤ m.n.length := hC
    omega
end Go.Proofs.YtaklahcbeldbhaaGreatDoor
