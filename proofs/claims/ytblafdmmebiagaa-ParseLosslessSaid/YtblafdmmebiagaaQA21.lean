/-
  Parts of the proof, joined: MkK MkU Bt Db Rd MkV Re La Eq. Conditions: as each theorem says.
-/
import Derived.Test.YtblafdmmebiagaaQA19
import Derived.Test.YtblafdmmebiagaaQA20
import Derived.Test.YtblafdmmebiagaaQA09
import Derived.Test.YtblafdmmebiagaaQA10
import Derived.Test.YtblafdmmebiagaaQA11
import Derived.Laws.StructEq
namespace Go.Proofs.Ytblafdmmebiagaa
open Go.RowKit Go.Lib
theorem coF_old {l : List Node} (h : Wf l) (x : Node) : ∀ (f : Nat) (n : Int), 0 ≤ n → n < l.length → coF (l ++ [x]) f n = coF l f n
  | 0, _, _, _ => rfl
  | f + 1, n, h0, h1 => by
    simp only [coF, nodeAt_old h0 h1]
    congr 2
    refine List.map_congr_left fun k hk => ?_
    have := h n h0 h1 k hk
    exact coF_old h x f k this.1 (by omega)
theorem co_old {l : List Node} (h : Wf l) (x : Node) {n : Int} (h0 : 0 ≤ n) (h1 : n < l.length) : co (l ++ [x]) n = co l n := coF_old h x _ n h0 h1
def coL (l : List Node) (ks : List Int) : Nat := (ks.map (co l)).sum
theorem coL_old {l : List Node} (h : Wf l) (x : Node) {ks : List Int} (hk : InR l ks) : coL (l ++ [x]) ks = coL l ks :=
  congrArg List.sum (List.map_congr_left fun k hk' => co_old h x (hk k hk').1 (hk k hk').2)
theorem co_new {l : List Node} (h : Wf l) {x : Node} (hx : InR l x.kids) : co (l ++ [x]) l.length = 1 + coL l x.kids := by
  rw [co_eq (wf_add h hx) (by omega) (by simp only [List.length_append, List.length_singleton]; omega), nodeAt_new]
  exact congrArg (1 + ·) (coL_old h x hx)
theorem coL_app (l : List Node) (a b : List Int) : coL l (a ++ b) = coL l a + coL l b := by simp [coL]
theorem coL_one (l : List Node) (k : Int) : coL l [k] = co l k := by simp [coL]
def coK (l : List Node) (s : List Opn) : Nat := (s.map fun x => coL l x.kids).sum
theorem coK_app (l : List Node) (s : List Opn) (x : Opn) : coK l (s ++ [x]) = coK l s + coL l x.kids := by simp [coK]
theorem coK_old {l : List Node} (h : Wf l) (x : Node) {s : List Opn} (hs : ∀ y ∈ s, InR l y.kids) : coK (l ++ [x]) s = coK l s :=
  congrArg List.sum (List.map_congr_left fun y hy => coL_old h x (hs y hy))
def CoInv (m : Mk) : Prop := coK m.n m.s ≤ m.n.length
theorem co_push {m : Mk} (h : CoInv m) (nm : List Int) : CoInv { m with s := m.s ++ [⟨nm, []⟩] } := by
  show coK m.n (m.s ++ [⟨nm, []⟩]) ≤ _
  have h : coK m.n m.s ≤ m.n.length := h
  rw [coK_app]
  simpa [coL] using h
theorem co_leafkid {m : Mk} {X : List UInt8} {B D : Nat} (h : MkInv m X B D) (hc : CoInv m) (kind : Int) (bs : List UInt8) : CoInv (kidF m.n.length (addF (leafF kind bs) m)) := by
  obtain ⟨s0, hs0⟩ := top_split h.s1
  generalize topF m.s = y at hs0
  have hr := h.rng
  rw [hs0] at hr
  have hr0 : ∀ z ∈ s0, InR m.n z.kids := fun z hz => hr z (List.mem_append_left _ hz)
  have hry : InR m.n y.kids := hr y (by simp)
  have hx : InR m.n (leafF kind bs).kids := fun k hk => by cases hk
  have hc : coK m.n m.s ≤ m.n.length := hc
  rw [hs0, coK_app] at hc
  show coK (m.n ++ [leafF kind bs]) (kidS m.n.length m.s) ≤ (m.n ++ [leafF kind bs]).length
  rw [hs0, kid_app, coK_app, coL_app, coL_one, coK_old h.ar.wf _ hr0, coL_old h.ar.wf _ hry, co_new h.ar.wf hx]
  have : coL m.n (leafF kind bs).kids = 0 := rfl
  rw [this]
  simp only [List.length_append, List.length_singleton]
  omega
theorem co_shut {m : Mk} {X : List UInt8} {B D : Nat} (h : MkInv m X B D) (hc : CoInv m) (hs : 2 ≤ m.s.length) (kind : Int) (bs : List UInt8) : CoInv (shutF m.n.length (addF (leafF kind bs) m)) := by
  obtain ⟨s1, hs1⟩ := top_split h.s1
  generalize topF m.s = x at hs1
  have hl1 : 1 ≤ s1.length := by rw [hs1] at hs; simp at hs; omega
  obtain ⟨s0, hs0⟩ := top_split hl1
  generalize topF s1 = y at hs0
  subst hs0
  have ha1 := (ar_leaf h.ar kind bs).1
  have hr := h.rng
  rw [hs1] at hr
  have hr0 : ∀ z ∈ s0, InR m.n z.kids := fun z hz => hr z (List.mem_append_left _ (List.mem_append_left _ hz))
  have hry : InR m.n y.kids := hr y (List.mem_append_left _ (by simp))
  have hrx : InR m.n x.kids := hr x (by simp)
  have hx : InR m.n (leafF kind bs).kids := fun k hk => by cases hk
  have hks : InR (m.n ++ [leafF kind bs]) (x.kids ++ [(m.n.length : Int)]) := fun k hk => by
    rcases List.mem_append.1 hk with hk | hk
    · exact hrx.more _ k hk
    · obtain rfl : k = (m.n.length : Int) := by simpa using hk
      simp; omega
  obtain ⟨l1, hl⟩ : ∃ l1, l1 = m.n ++ [leafF kind bs] := ⟨_, rfl⟩
  obtain ⟨z, hz⟩ : ∃ z, z = branchF l1 21 (x.kids ++ [(m.n.length : Int)]) := ⟨_, rfl⟩
  have e1 : coL l1 (x.kids ++ [(m.n.length : Int)]) = coL m.n x.kids + 1 := by
    rw [hl, coL_app, coL_one, coL_old h.ar.wf _ hrx, co_new h.ar.wf hx]; rfl
  have eT : topF (kidF (m.n.length : Int) (addF (leafF kind bs) m)).s = ⟨x.name, x.kids ++ [(m.n.length : Int)]⟩ := by
    show topF (kidS m.n.length m.s) = _
    rw [hs1, kid_app, top_app]
  have en : (shutF m.n.length (addF (leafF kind bs) m)).n = l1 ++ [z] := by
    show (m.n ++ [leafF kind bs]) ++ [branchF (m.n ++ [leafF kind bs]) 21 (topF (kidF (m.n.length : Int) (addF (leafF kind bs) m)).s).kids] = _
    rw [eT, ← hl, ← hz]
  have es : (shutF m.n.length (addF (leafF kind bs) m)).s = s0 ++ [⟨y.name, y.kids ++ [(l1.length : Int)]⟩] := by
    show kidS ((m.n ++ [leafF kind bs]).length : Int) ((kidS m.n.length m.s).take ((kidS m.n.length m.s).length - 1)) = _
    have e2 : (kidS m.n.length m.s).take ((kidS m.n.length m.s).length - 1) = s0 ++ [y] := by
      rw [hs1, kid_app, show (s0 ++ [y] ++ [(⟨x.name, x.kids ++ [(m.n.length : Int)]⟩ : Opn)]).length - 1 = (s0 ++ [y]).length by simp]
      exact List.take_left
    rw [e2, kid_app, hl]
  rw [← hl] at ha1 hks
  have hzk : InR l1 z.kids := by rw [hz]; exact hks
  have hc : coK m.n m.s ≤ m.n.length := hc
  rw [hs1, coK_app, coK_app] at hc
  have up0 : coK (l1 ++ [z]) s0 = coK m.n s0 := by
    rw [coK_old ha1.wf z (fun q hq => by rw [hl]; exact (hr0 q hq).more _), hl, coK_old h.ar.wf _ hr0]
  have upy : coL (l1 ++ [z]) y.kids = coL m.n y.kids := by
    rw [coL_old ha1.wf z (by rw [hl]; exact hry.more _), hl, coL_old h.ar.wf _ hry]
  have hll : l1.length = m.n.length + 1 := by rw [hl]; simp
  show coK (shutF m.n.length (addF (leafF kind bs) m)).n (shutF m.n.length (addF (leafF kind bs) m)).s ≤ (shutF m.n.length (addF (leafF kind bs) m)).n.length
  rw [es, en, coK_app, coL_app, coL_one, up0, upy, co_new ha1.wf hzk]
  have ez : coL l1 z.kids = coL m.n x.kids + 1 := by rw [hz]; exact e1
  rw [ez]
  simp only [List.length_append, List.length_singleton]
  omega
structure MkI (m : Mk) (X : List UInt8) (B D : Nat) : Prop where
  i : MkInv m X B D
  c : CoInv m
section
variable {m : Mk} {X : List UInt8} {B D : Nat}
theorem MkI.lk (h : MkI m X B D) (t : Txt) (b : List UInt8) (kind f u : Int) : MkI (lkF t b kind f u m) (X ++ sliceF t b f u) (B + 1) D := ⟨inv_lk h.i t b kind f u, co_leafkid h.i h.c kind _⟩
theorem MkI.wrong (h : MkI m X B D) (t : Txt) (c f u : Int) : MkI (wrongF t c f u m) X B (D + 1) := ⟨inv_wrong h.i t c f u, h.c⟩
theorem MkI.start (h : MkI m X B D) (t : Txt) (b : List UInt8) (hr : t.r.length ≤ 1000000) (kind f u : Int) : MkI (startF' t b kind f u m) (X ++ sliceF t b f u) (B + 3) (D + 2) := by
  refine ⟨inv_start h.i t b hr kind f u, ?_⟩
  unfold startF'
  split
  · exact ((h.wrong t 5 f u).lk t b kind f u).c
  · exact co_leafkid (inv_push h.i (nameF' t f u) (Nat.le_trans (name_len t f u) hr)) (co_push h.c _) kind _
theorem MkI.miss (h : MkI m X B D) (hs : 2 ≤ m.s.length) (t : Txt) (a : Int) : MkI (missF t a m) X B D := ⟨(inv_miss h.i hs t a).1, co_shut (inv_wrong h.i t 4 a a) h.c hs 22 []⟩
end
theorem MkI.missGo (t : Txt) (f : Int) (k : Nat) {X : List UInt8} {B D : Nat} : ∀ (n : Nat) (m : Mk), MkI m X B D → k + 1 ≤ m.s.length → m.s.length ≤ n + k + 1 → MkI (missGo t f k n m) X B D ∧ (Go.Proofs.Ytblafdmmebiagaa.missGo t f k n m).s.length = k + 1
  | 0, m, h, h1, h2 => ⟨h, by show m.s.length = _; omega⟩
  | n + 1, m, h, h1, h2 => by
    show MkI (if _ then _ else _) X B D ∧ (if _ then _ else _ : Mk).s.length = _
    split
    · have h3 := inv_miss h.i (by omega) t f
      exact MkI.missGo t f k n _ (h.miss (by omega) t f) (by omega) (by omega)
    · exact ⟨h, by omega⟩
section
variable {m : Mk} {X : List UInt8} {B D : Nat}
theorem MkI.end_ (h : MkI m X B D) (t : Txt) (b : List UInt8) (kind f u : Int) : MkI (endF' t b kind f u m) (X ++ sliceF t b f u) (B + 1) (D + 1) := by
  refine ⟨inv_end h.i t b kind f u, ?_⟩
  unfold endF'
  have h1 := h.i.s1
  have h2 := opnFind_le m.s (nameF' t f u) (m.s.length - 1)
  simp only
  split
  · exact ((h.wrong t 3 f u).lk t b kind f u).c
  · obtain ⟨h3, h4⟩ := MkI.missGo t f (opnFind m.s (nameF' t f u) (m.s.length - 1)) m.s.length m h (by omega) (by omega)
    exact co_shut h3.i h3.c (by omega) kind _
theorem MkI.token (h : MkI m X B D) (t : Txt) (b : List UInt8) (hr : t.r.length ≤ 1000000) (kind f u : Int) (wh : Bool) : MkI (tokenF t b kind f u wh m) (X ++ sliceF t b f u) (B + 3) (D + 3) := by
  refine ⟨inv_token h.i t b hr kind f u wh, ?_⟩
  unfold tokenF
  simp only
  generalize hm1 : (if wh = false then wrongF t 1 f u m else if (kind = 8 ∨ kind = 9 ∨ kind = 10) ∧ (readF t.r f u).right = false then wrongF t 2 f u m else m) = m1
  have h1 : ∃ D', MkI m1 X B D' := by
    rw [← hm1]
    split
    · exact ⟨_, h.wrong t 1 f u⟩
    · split
      · exact ⟨_, h.wrong t 2 f u⟩
      · exact ⟨_, h⟩
  obtain ⟨D', h1⟩ := h1
  split
  · exact (h1.start t b hr kind f u).c
  · split
    · exact (h1.end_ t b kind f u).c
    · exact (h1.lk t b kind f u).c
end
theorem inv_toks {t : Txt} {b : List UInt8} (ok : TxtOk t b) (hr : t.r.length ≤ 1000000) : ∀ (n k : Nat) (m : Mk) (B D : Nat), t.r.length - k ≤ n → k ≤ t.r.length → MkI m (upTo t b k) B D →
    MkI ((toksGo t.r k).foldl (tokM t b) m) b (B + 3 * n) (D + 3 * n)
  | 0, k, m, B, D, h, hk, hi => by
    rw [toksGo_nil (by omega)]
    have : k = t.r.length := by omega
    subst this
    rw [upTo_end ok] at hi
    exact hi
  | n + 1, k, m, B, D, h, hk, hi => by
    by_cases hlt : k < t.r.length
    · obtain ⟨h1, h2, h3, h4⟩ := tok_in t.r hlt
      rw [toksGo_cons hlt, List.foldl_cons]
      have := hi.token t b hr (tokAt t.r k).kind (tokAt t.r k).from_ (tokAt t.r k).to (tokAt t.r k).whole
      rw [h1, h2, upTo_slice ok (by omega) (by omega) (by omega)] at this
      have h5 := inv_toks ok hr n (nextTF t.r k).2.1 _ (B + 3) (D + 3) (by omega) h4 this
      rw [show B + 3 * (n + 1) = B + 3 + 3 * n by omega, show D + 3 * (n + 1) = D + 3 + 3 * n by omega]
      have e : tokM t b m (tokAt t.r k) = tokenF t b (tokAt t.r k).kind k ((nextTF t.r k).2.1 : Nat) (tokAt t.r k).whole m := rfl
      rw [e]
      exact h5
    · rw [toksGo_nil hlt]
      have : k = t.r.length := by omega
      subst this
      rw [upTo_end ok] at hi
      exact ⟨hi.i.mono (by omega) (by omega), hi.c⟩
theorem inv_all {t : Txt} {b : List UInt8} (ok : TxtOk t b) (hr : t.r.length ≤ 1000000) {m : Mk} {B D : Nat} (hi : MkI m (upTo t b 0) B D) :
    MkI (allM t b m) b (B + 3 * t.r.length) (D + 3 * t.r.length) ∧ (allM t b m).s.length = 1 := by
  have h1 := inv_toks ok hr t.r.length 0 m B D (by omega) (by omega) hi
  have h2 := h1.i.s1
  obtain ⟨h3, h4⟩ := MkI.missGo t t.r.length 0 _ _ h1 (by omega) (Nat.le_succ _)
  exact ⟨h3, h4⟩
theorem root_prints {b : List UInt8} {m : Mk} {B D : Nat} (hi : MkI m b B D) (h1 : m.s.length = 1) :
    Ar (rootM m).n ∧ pr (rootM m).n m.n.length = b ∧ (nodeAt (rootM m).n m.n.length).width = b.length ∧ co (rootM m).n m.n.length ≤ 1 + m.n.length := by
  have hk := hi.i.top
  obtain ⟨ha, hp⟩ := ar_branch hi.i.ar 20 hk
  obtain ⟨s0, hs0⟩ := top_split hi.i.s1
  have hs : s0 = [] := by
    rw [hs0] at h1
    exact List.eq_nil_of_length_eq_zero (by simpa using h1)
  subst hs
  have hX : (topF m.s).kids.flatMap (pr m.n) = b := by
    have := hi.i.p
    rw [hs0] at this
    generalize topF m.s = y at *
    simpa [prK] using this
  have hC : coL m.n (topF m.s).kids ≤ m.n.length := by
    have h2 : coK m.n m.s ≤ m.n.length := hi.c
    rw [hs0] at h2
    generalize topF m.s = y at *
    simpa [coK] using h2
  have hlen : (m.n.length : Int) < ((rootM m).n.length : Int) := by
    show (m.n.length : Int) < ((m.n ++ [_]).length : Int)
    simp only [List.length_append, List.length_singleton]; omega
  have e2 : pr (rootM m).n m.n.length = b := by
    show pr (m.n ++ [_]) _ = _
    rw [hp, hX]
  refine ⟨ha, e2, ?_, ?_⟩
  · have := ha.wide m.n.length (by omega) hlen
    have e3 : (nodeAt (rootM m).n m.n.length).width = ((pr (rootM m).n m.n.length).length : Int) := this
    rw [e3, e2]
  · show co (m.n ++ [branchF m.n 20 (topF m.s).kids]) m.n.length ≤ _
    rw [co_new hi.i.ar.wf (x := branchF m.n 20 (topF m.s).kids) hk]
    have : coL m.n (branchF m.n 20 (topF m.s).kids).kids ≤ m.n.length := hC
    omega
end Go.Proofs.Ytblafdmmebiagaa
namespace Go.Proofs.Ytblafdmmebiagaa
open Go.RowKit Go.Lib
def tkAn (t : Txt) (b : List UInt8) (k f u : Int) (w : Bool) (N D S : List AV) : List AV := nodesA (tokenF t b k f u w (mkB N D S)).n
def tkAd (t : Txt) (b : List UInt8) (k f u : Int) (w : Bool) (N D S : List AV) : List AV := dgsA (tokenF t b k f u w (mkB N D S)).d
def tkAs (t : Txt) (b : List UInt8) (k f u : Int) (w : Bool) (N D S : List AV) : List AV := opnsA (tokenF t b k f u w (mkB N D S)).s
theorem tkAn_eq (t : Txt) (b : List UInt8) (k f u : Int) (w : Bool) (m : Mk) : tkAn t b k f u w (nodesA m.n) (dgsA m.d) (opnsA m.s) = nodesA (tokenF t b k f u w m).n := by rw [tkAn, mk_back]
theorem tkAd_eq (t : Txt) (b : List UInt8) (k f u : Int) (w : Bool) (m : Mk) : tkAd t b k f u w (nodesA m.n) (dgsA m.d) (opnsA m.s) = dgsA (tokenF t b k f u w m).d := by rw [tkAd, mk_back]
theorem tkAs_eq (t : Txt) (b : List UInt8) (k f u : Int) (w : Bool) (m : Mk) : tkAs t b k f u w (nodesA m.n) (dgsA m.d) (opnsA m.s) = opnsA (tokenF t b k f u w m).s := by rw [tkAs, mk_back]
def csAl (p : Pr) (TK : List AV) (tn td ts : Int → Int → Int → Bool → List AV → List AV → List AV → List AV) (mn md ms : Int → List AV → List AV → List AV → List AV) (br : Int → List AV → List AV → List AV) : Nat → List AV → List Ob → Option (AV × List Ob) := fun f args ob => match f, args with
  | 49, [.slc 1 _] => some (.slc 4 TK, [])
  | 50, [.box 0 0, .agg [.val (.int .i64 kind), .val (.int .i64 f), .val (.int .i64 u), .val (.bool wh)]] => withM ob fun b k m r o rt N D S => some (.tup [], obM 1 b k m r o rt (tn kind f u wh N D S) (td kind f u wh N D S) (ts kind f u wh N D S))
  | 51, [.box 0 0, .val (.int .i64 a)] => withM ob fun b k m r o rt N D S => some (.tup [], obM 1 b k m r o rt (mn a N D S) (md a N D S) (ms a N D S))
  | 52, [.box 0 0, .val (.int .i64 k), .slc 1 ks] => match ob with
    | [.box [.row 1 0], .row 74 6 false 0 N] => some (.tup [.val (.int .i64 (p.len N)), .val (.int .i64 0)], [.box [.row 1 1], .row 74 6 false 1 (br k ks N)])
    | _ => none
  | _, _ => none
def alO : OT := .then [0, 1, 2, 4, 5, 6, 7, 8, 9, 10, 11, 12, 13, 14, 15, 16, 17] (.fork (.of [3, 18, 19, 20, 21, 22, 23, 24]) (.of [18, 19, 20, 21, 3, 22, 23, 24]))
theorem toks_le (l : List Int) : ∀ n k : Nat, l.length - k ≤ n → (toksGo l k).length ≤ n
  | 0, k, h => by rw [toksGo_nil (by omega)]; exact Nat.le_refl _
  | n + 1, k, h => by
    by_cases hk : k < l.length
    · have := nextTF_range l k hk
      rw [toksGo_cons hk, List.length_cons]
      have := toks_le l n (nextTF l k).2.1 (by omega)
      omega
    · rw [toksGo_nil hk]; exact Nat.zero_le _
set_option maxRecDepth 20000 in
set_option maxHeartbeats 2000000 in
theorem all_b (t : Txt) (b : List UInt8) (hs : Sml t b) (rt : Int) (m : Mk) (B D : Nat) (iv : MkI m (upTo t b 0) B D) (hB : B + 3 * t.r.length ≤ 600000) (hD : D + 3 * t.r.length ≤ 600000) :
    BCall Try.prog 30 [.box 0 0] (obT 0 t b rt m) (.tup []) (obT 1 t b (allM t b m).n.length (rootM (allM t b m))) := by
  have cT := Tokens_b t.r hs.hr
  obtain ⟨toks, htk⟩ : ∃ toks, toks = toksF t.r := ⟨_, rfl⟩
  rw [← htk] at cT
  have hnl : toks.length ≤ 1000000 := by
    have := toks_le t.r t.r.length 0 (by omega)
    rw [htk]; exact Nat.le_trans this hs.hr
  obtain ⟨n, hn⟩ := exLen toks
  obtain ⟨M0, hM0⟩ : ∃ x, x = toks.foldl (tokM t b) m := ⟨_, rfl⟩
  obtain ⟨M1, hM1⟩ : ∃ x, x = allM t b m := ⟨_, rfl⟩
  have hM01 : M1 = missGo t t.r.length 0 M0.s.length M0 := by rw [hM1, hM0, htk]; rfl
  rw [← hM1]
  obtain ⟨E, hE⟩ : ∃ x, x = rootM M1 := ⟨_, rfl⟩
  unfold obT obM
  refine bcall_of (cs := csAl std (toksA toks) (tkAn t b) (tkAd t b) (tkAs t b) (msAn t) (msAd t) (msAs t) brA) (ord := fun id => match id with | 7 =>  alO | _ => .nil) tyOk (by kernel_rfl) Try.func30 rfl (enters_of Try.func30 (by kernel_rfl) rfl) (Nat.le_of_ble_eq_true rfl) (by kernel_rfl) (by kernel_rfl) ?_
  intro w0 g0
  generalize hp : std = p
  generalize hTK : toksA toks = TK
  generalize htn : tkAn t b = tn
  generalize htd : tkAd t b = td
  generalize hts : tkAs t b = ts
  generalize hmn : msAn t = mn
  generalize hmd : msAd t = md
  generalize hms : msAs t = ms
  generalize hbr : brA = br
  generalize hN : nodesA m.n = N
  generalize hD' : dgsA m.d = D'
  generalize hS : opnsA m.s = S
  generalize hB' : bytesA b = B'
  generalize hR : runesA t.r = R
  generalize hO : intsA t.off = O
  generalize hK : t.kind = K
  generalize hM : t.bom = M
  generalize hT : aexec p tys (csAl p TK tn td ts mn md ms br) _ _ _ _ = T
  cbv at hT
  subst hT
  simp only [Tree.ok, RoundOk, Bool.false_eq_true, Bool.true_eq_false, false_implies, true_implies, and_true, true_and]
  subst hp hTK htn htd hts hmn hmd hms hbr hN hD' hS hB' hR hO hK hM
  have tlen := toks_len toks
  have hnm : std.len (toksA toks) = n := by show ((toksA toks).length : Int) = n; rw [tlen, hn.eq]
  refine ⟨cT, ?_⟩
  refine loop_rule (cs := csAl std (toksA toks) (tkAn t b) (tkAd t b) (tkAs t b) (msAn t) (msAd t) (msAs t) brA) (ord := fun _ => .nil) tyOk (by kernel_rfl) (by kernel_rfl) (by kernel_rfl) (X := Int × Mk × Nat) (fun x => ⟨[(0, .box 0 0), (12, .slc 4 (toksA toks)), (13, .val (.int .i64 n)), (14, .val (.int .i64 x.1))], [.box [.slc 1 (bytesA b), .box 1 0, .row 5 1], .box [.val (.int .i64 t.kind), .val (.int .i64 t.bom), .slc 1 (runesA t.r), .slc 1 (intsA t.off), .box 2 0, .val (.int .i64 rt), .row 4 1], .box [.row 3 1], .row 74 6 false 1 (nodesA x.2.1.n), .row 47 3 false 1 (dgsA x.2.1.d), .row 66 2 false 1 (opnsA x.2.1.s)]⟩) (fun x => 0 ≤ x.1 ∧ x.1 ≤ n ∧ x.2.2 ≤ t.r.length ∧ toksGo t.r x.2.2 = toks.drop x.1.toNat ∧ MkI x.2.1 (upTo t b x.2.2) (B + 3 * x.2.2) (D + 3 * x.2.2) ∧ (toks.drop x.1.toNat).foldl (tokM t b) x.2.1 = M0) (fun x => (n - x.1).toNat) (0, m, 0) ?_ ?_ ?_
  · have := hn.eq
    exact ⟨Int.le_refl _, by simp only; omega, Nat.zero_le _, by rw [htk]; rfl, iv, hM0.symm⟩
  · refine ⟨[some 0, some 1, some 2, some 3, some 4, some 5], _, rfl, ?_⟩
    repeat first
      | exact trivial
      | refine ⟨rfl, ?_⟩
      | refine ⟨hnm, ?_⟩
      | refine ⟨congrArg (fun q => AV.val (.int .i64 q)) (hnm), ?_⟩
      | refine ⟨congrArg (fun q => AV.slc 1 q) (hnm), ?_⟩
      | refine ⟨congrArg (fun q => AV.slc 0 q) (hnm), ?_⟩
      | refine ⟨congrArg (fun q => AV.val (.bool q)) (hnm), ?_⟩
      | refine ⟨congrArg (fun q => AV.val (.int .i32 q)) (hnm), ?_⟩
      | refine ⟨congrArg (fun q => AV.val (.string q)) (hnm), ?_⟩
  · rintro ⟨i, x, k⟩ ⟨hi0, hi1, hk, hd, hv, hf⟩
    simp only at hi0 hi1 hk hd hv hf
    have okx := hv.i.ok (by omega) (by omega)
    rcases Int.lt_or_eq_of_le hi1 with hlt | heq
    · have en := hn.eq
      have hil : i.toNat < toks.length := by omega
      have hkl : k < t.r.length := by
        by_cases h : k < t.r.length
        · exact h
        · rw [toksGo_nil h] at hd
          have := congrArg List.length hd
          rw [List.length_drop] at this
          simp at this
          omega
      obtain ⟨t1, t2, t3, t4⟩ := tok_in t.r hkl
      have hdr : toks.drop i.toNat = tokAt t.r k :: toksGo t.r (nextTF t.r k).2.1 := by rw [← hd, toksGo_cons hkl]
      have hxe : toks[i.toNat]? = some (tokAt t.r k) := by rw [← List.head?_drop, hdr]; rfl
      have hdn : toksGo t.r (nextTF t.r k).2.1 = toks.drop (i + 1).toNat := by
        rw [show (i + 1).toNat = i.toNat + 1 by omega, ← List.tail_drop, hdr]; rfl
      have hat : (toksA toks).getD i.toNat .dead = (tokAt t.r k).av := by
        rw [List.getD_eq_getElem?_getD, toksA, List.getElem?_map, hxe]; rfl
      have hin : InT t (tokAt t.r k).from_ (tokAt t.r k).to := ⟨by omega, by omega, by omega⟩
      have hXl : (upTo t b k).length ≤ 1000000 := by
        have := hs.hb
        rw [upTo, List.length_take]; omega
      have c := token_b t b hs rt x (upTo t b k) (B + 3 * k) (D + 3 * k) hv.i (by omega) (by omega) hXl (tokAt t.r k).kind (tokAt t.r k).from_ (tokAt t.r k).to (tokAt t.r k).whole hin
      have hv2 : MkI (tokM t b x (tokAt t.r k)) (upTo t b (nextTF t.r k).2.1) (B + 3 * (nextTF t.r k).2.1) (D + 3 * (nextTF t.r k).2.1) := by
        have := hv.token t b hs.hr (tokAt t.r k).kind (tokAt t.r k).from_ (tokAt t.r k).to (tokAt t.r k).whole
        rw [t1, t2, upTo_slice hs.ok (by omega) (by omega) (by omega)] at this
        have e : tokM t b x (tokAt t.r k) = tokenF t b (tokAt t.r k).kind k ((nextTF t.r k).2.1 : Nat) (tokAt t.r k).whole x := rfl
        rw [e]
        exact ⟨this.i.mono (by omega) (by omega), this.c⟩
      have hf2 : (toks.drop (i + 1).toNat).foldl (tokM t b) (tokM t b x (tokAt t.r k)) = M0 := by
        rw [hdr, List.foldl_cons] at hf
        rw [← hdn]; exact hf
      obtain ⟨y, hy⟩ : ∃ y, y = tokAt t.r k := ⟨_, rfl⟩
      obtain ⟨k2, hk2⟩ : ∃ k2, k2 = (nextTF t.r k).2.1 := ⟨_, rfl⟩
      rw [← hy] at hat hin c hv2 hf2
      rw [← hk2] at hv2 hdn t4
      clear en t1 t2 t3 hdr hxe hd hf hy hk2 hkl
      generalize hp : std = p
      generalize hTK : toksA toks = TK
      generalize htn : tkAn t b = tn
      generalize htd : tkAd t b = td
      generalize hts : tkAs t b = ts
      generalize hmn : msAn t = mn
      generalize hmd : msAd t = md
      generalize hms : msAs t = ms
      generalize hbr : brA = br
      generalize hN : nodesA x.n = N
      generalize hD' : dgsA x.d = D'
      generalize hS : opnsA x.s = S
      generalize hB' : bytesA b = B'
      generalize hR : runesA t.r = R
      generalize hO : intsA t.off = O
      generalize hK : t.kind = K
      generalize hM : t.bom = M
      generalize hT : aexec p tys (csAl p TK tn td ts mn md ms br) _ _ _ _ = T
      cbv at hT
      subst hT
      simp only [Tree.ok, RoundOk, Bool.false_eq_true, Bool.true_eq_false, false_implies, true_implies, and_true, true_and]
      subst hp hTK htn htd hts hmn hmd hms hbr hN hD' hS hB' hR hO hK hM
      unfold obT obM at c
      simp only [std, hat, Tok.av, AV.cells, List.getD_cons_zero, List.getD_cons_succ, intOf, booOf, allP, tkAn_eq, tkAd_eq, tkAs_eq, decide_eq_true_eq, decide_eq_false_iff_not]
      refine ⟨fun _ => ⟨?_, ⟨trivial, trivial, trivial, trivial, trivial⟩, c, ?_, (i + 1, tokM t b x y, k2), ⟨?_, ?_, t4, hdn, hv2, hf2⟩, ?_, [some 0, some 1, some 2, some 3, some 4, some 5], _, rfl, ?_⟩, fun h => ?_⟩
      · have := hn.eq
        rw [tlen]; omega
      · have := hn.eq
        have := hs.hr
        show (-9223372036854775808 : Int) ≤ i + 1 ∧ i + 1 ≤ (9223372036854775807 : Int)
        omega
      · show 0 ≤ i + 1
        omega
      · show i + 1 ≤ n
        omega
      · show (n - (i + 1)).toNat < (n - i).toNat
        omega
      · simp [AllEq, lk, tokM]
      · omega
    · have hd0 : toks.drop i.toNat = [] := List.drop_eq_nil_of_le (by have := hn.eq; omega)
      rw [hd0] at hd hf
      have hxM : x = M0 := hf
      have hkr : k = t.r.length := by
        by_cases h : k < t.r.length
        · rw [toksGo_cons h] at hd; cases hd
        · omega
      subst hxM
      rw [heq]
      clear hd hf hd0 hk
      have hlr : (t.r.length : Int) = t.r.length := rfl
      obtain ⟨rl, hrl⟩ := exLen t.r
      generalize hp : std = p
      generalize hTK : toksA toks = TK
      generalize htn : tkAn t b = tn
      generalize htd : tkAd t b = td
      generalize hts : tkAs t b = ts
      generalize hmn : msAn t = mn
      generalize hmd : msAd t = md
      generalize hms : msAs t = ms
      generalize hbr : brA = br
      generalize hN : nodesA x.n = N
      generalize hD' : dgsA x.d = D'
      generalize hS : opnsA x.s = S
      generalize hB' : bytesA b = B'
      generalize hR : runesA t.r = R
      generalize hO : intsA t.off = O
      generalize hK : t.kind = K
      generalize hM : t.bom = M
      generalize hT : aexec p tys (csAl p TK tn td ts mn md ms br) _ _ _ _ = T
      cbv at hT
      subst hT
      simp only [Tree.ok, RoundOk, Bool.false_eq_true, Bool.true_eq_false, false_implies, true_implies, and_true, true_and]
      subst hp hTK htn htd hts hmn hmd hms hbr hN hD' hS hB' hR hO hK hM
      refine ⟨fun h => ?_, fun _ => ?_⟩
      · have h : n < n := of_decide_eq_true h
        omega
      rw [if_pos trivial]
      generalize hp : std = p
      generalize hTK : toksA toks = TK
      generalize htn : tkAn t b = tn
      generalize htd : tkAd t b = td
      generalize hts : tkAs t b = ts
      generalize hmn : msAn t = mn
      generalize hmd : msAd t = md
      generalize hms : msAs t = ms
      generalize hbr : brA = br
      generalize hN : nodesA x.n = N
      generalize hD' : dgsA x.d = D'
      generalize hS : opnsA x.s = S
      generalize hB' : bytesA b = B'
      generalize hR : runesA t.r = R
      generalize hO : intsA t.off = O
      generalize hK : t.kind = K
      generalize hM : t.bom = M
      generalize hT : aexec p tys (csAl p TK tn td ts mn md ms br) _ _ _ _ = T
      cbv at hT
      subst hT
      simp only [Tree.ok, RoundOk, Bool.false_eq_true, Bool.true_eq_false, false_implies, true_implies, and_true, true_and]
      subst hp hTK htn htd hts hmn hmd hms hbr hN hD' hS hB' hR hO hK hM
      rw [hkr, upTo_end hs.ok] at hv
      have hv0 : MkI x b (B + 3 * t.r.length) (D + 3 * t.r.length) := hv
      have hrl2 : std.len (runesA t.r) = rl := by show ((runesA t.r).length : Int) = rl; rw [runes_len, hrl.eq]
      clear hv hkr hlr okx heq hi0 hi1
      refine loop_rule (cs := csAl std (toksA toks) (tkAn t b) (tkAd t b) (tkAs t b) (msAn t) (msAd t) (msAs t) brA) (ord := fun _ => .nil) tyOk (by kernel_rfl) (by kernel_rfl) (by kernel_rfl) (X := Mk) (fun x => ⟨[(0, .box 0 0)], [.box [.slc 1 (bytesA b), .box 1 0, .row 5 1], .box [.val (.int .i64 t.kind), .val (.int .i64 t.bom), .slc 1 (runesA t.r), .slc 1 (intsA t.off), .box 2 0, .val (.int .i64 rt), .row 4 1], .box [.row 3 1], .row 74 6 false 1 (nodesA x.n), .row 47 3 false 1 (dgsA x.d), .row 66 2 false 1 (opnsA x.s)]⟩) (fun x => MkI x b (B + 3 * t.r.length) (D + 3 * t.r.length) ∧ missGo t t.r.length 0 x.s.length x = M1) (fun x => x.s.length) x ?_ ?_ ?_
      · exact ⟨hv0, hM01.symm⟩
      · exact ⟨[some 0, some 1, some 2, some 3, some 4, some 5], _, rfl, by simp [AllEq, lk, std]⟩
      · rintro y ⟨hv, hg⟩
        have oky := hv.i.ok (by omega) (by omega)
        have ylen := opns_len y.s
        obtain ⟨LY, hLY⟩ := exLen y.s
        generalize hp : std = p
        generalize hTK : toksA toks = TK
        generalize htn : tkAn t b = tn
        generalize htd : tkAd t b = td
        generalize hts : tkAs t b = ts
        generalize hmn : msAn t = mn
        generalize hmd : msAd t = md
        generalize hms : msAs t = ms
        generalize hbr : brA = br
        generalize hN : nodesA y.n = N
        generalize hD' : dgsA y.d = D'
        generalize hS : opnsA y.s = S
        generalize hB' : bytesA b = B'
        generalize hR : runesA t.r = R
        generalize hO : intsA t.off = O
        generalize hK : t.kind = K
        generalize hM : t.bom = M
        generalize hT : aexec p tys (csAl p TK tn td ts mn md ms br) _ _ _ _ = T
        cbv at hT
        subst hT
        simp only [Tree.ok, RoundOk, Bool.false_eq_true, Bool.true_eq_false, false_implies, true_implies, and_true, true_and]
        subst hp hTK htn htd hts hmn hmd hms hbr hN hD' hS hB' hR hO hK hM
        have hly : std.len (opnsA y.s) = LY := by show ((opnsA y.s).length : Int) = LY; rw [ylen, hLY.eq]
        simp only [msAn_eq, msAd_eq, msAs_eq]
        refine ⟨fun hgt => ?_, fun hle => ?_⟩
        · have hgt : 1 < std.len (opnsA y.s) := of_decide_eq_true hgt
          rw [hly] at hgt
          have hy2 : 2 ≤ y.s.length := by have := hLY.eq; omega
          have hrr := hrl.eq
          have hol := hs.ok.len
          have c := miss_i t b rt hv.i (by omega) (by omega) hs.hb t.r.length (by omega) hy2
          have erl : (t.r.length : Int) = std.len (runesA t.r) := by rw [hrl2]; exact hrr.symm
          rw [erl] at c
          refine ⟨c, missF t (std.len (runesA t.r)) y, ⟨by rw [← erl]; exact hv.miss hy2 t t.r.length, ?_⟩, by rw [miss_len]; omega, [some 0, some 1, some 2, some 3, some 4, some 5], _, rfl, by simp [AllEq, lk, std]⟩
          rw [← erl, ← missGo_step (by omega)]; exact hg
        · have hle : ¬ 1 < std.len (opnsA y.s) := of_decide_eq_false hle
          rw [hly] at hle
          have hy1 : y.s.length = 1 := by have := hLY.eq; have := hv.i.s1; omega
          have hyM : y = M1 := by rw [← hg, missGo_end (by omega)]
          subst hyM
          clear hle hly
          rw [if_pos trivial]
          generalize hp : std = p
          generalize hTK : toksA toks = TK
          generalize htn : tkAn t b = tn
          generalize htd : tkAd t b = td
          generalize hts : tkAs t b = ts
          generalize hmn : msAn t = mn
          generalize hmd : msAd t = md
          generalize hms : msAs t = ms
          generalize hbr : brA = br
          generalize hN : nodesA y.n = N
          generalize hD' : dgsA y.d = D'
          generalize hS : opnsA y.s = S
          generalize hB' : bytesA b = B'
          generalize hR : runesA t.r = R
          generalize hO : intsA t.off = O
          generalize hK : t.kind = K
          generalize hM : t.bom = M
          generalize hT : aexec p tys (csAl p TK tn td ts mn md ms br) _ _ _ _ = T
          cbv at hT
          subst hT
          simp only [Tree.ok, RoundOk, Bool.false_eq_true, Bool.true_eq_false, false_implies, true_implies, and_true, true_and]
          subst hp hTK htn htd hts hmn hmd hms hbr hN hD' hS hB' hR hO hK hM
          obtain ⟨o, ho⟩ : ∃ o, y.s = [o] := List.length_eq_one_iff.1 hy1
          have hto : topF y.s = o := by rw [ho]; rfl
          have hcell : std.nth (std.drp (std.cel (std.at_ (opnsA y.s) 0)) 1) 0 = slK (topF y.s).kids := by rw [hto, ho]; rfl
          have hlst : std.lst (slK (topF y.s).kids) = intsA (topF y.s).kids := by cases (topF y.s).kids <;> rfl
          have hcl2 : std.lst (std.nth (std.drp (std.cel (std.at_ (opnsA y.s) 0)) 1) 0) = intsA (topF y.s).kids := by rw [hcell, hlst]
          have hflat : ((topF y.s).kids.flatMap (pr y.n)).length ≤ b.length := by
            have := hv.i.p
            rw [hto, ← this, ho]
            simp [prK]
          have hkl : (topF y.s).kids.length ≤ 900000 := oky.top
          have cB := Branch_b y.n (by have := oky.n; omega) 20 (topF y.s).kids (by omega) hv.i.top hv.i.ar.ok.w hv.i.ar.ok.c (MkInv.sum hv.i.ar hv.i.top hflat (by have := hs.hb; omega))
          rw [← brA_eq, ← nodes_len, ← hcl2] at cB
          have hnl2 := nodes_len y.n
          have fin : brA 20 (std.lst (std.nth (std.drp (std.cel (std.at_ (opnsA y.s) 0)) 1) 0)) (nodesA y.n) = nodesA (rootM y).n := by
            rw [hcl2, brA_eq]; rfl
          have e0 : std.len (nodesA y.n) = (y.n.length : Int) := by show ((nodesA y.n).length : Int) = _; rw [hnl2]
          refine ⟨?_, ⟨?_, trivial⟩, ⟨cB, ?_⟩, cB, ?_⟩
          · show 0 ≤ (0 : Int) ∧ (0 : Int) < std.len (opnsA y.s)
            show 0 ≤ (0 : Int) ∧ (0 : Int) < ((opnsA y.s).length : Int)
            rw [ylen, hy1]; decide
          · show std.hasL 1 (std.nth (std.drp (std.cel (std.at_ (opnsA y.s) 0)) 1) 0)
            rw [hcell]
            rcases slK_or (topF y.s).kids with h | h
            · exact .inl (by rw [h]; rfl)
            · exact .inr h.1
          all_goals
            refine ⟨[some 0, some 1, some 2, some 3, some 4, some 5], .tup [], _, rfl, rfl, Nat.le_of_ble_eq_true rfl, rfl, ?_, trivial⟩
            repeat first
              | exact trivial
              | refine ⟨rfl, ?_⟩
              | refine ⟨e0, ?_⟩
              | refine ⟨congrArg (fun q => AV.val (.int .i64 q)) (e0), ?_⟩
              | refine ⟨congrArg (fun q => AV.slc 1 q) (e0), ?_⟩
              | refine ⟨congrArg (fun q => AV.slc 0 q) (e0), ?_⟩
              | refine ⟨congrArg (fun q => AV.val (.bool q)) (e0), ?_⟩
              | refine ⟨congrArg (fun q => AV.val (.int .i32 q)) (e0), ?_⟩
              | refine ⟨congrArg (fun q => AV.val (.string q)) (e0), ?_⟩
              | refine ⟨fin, ?_⟩
              | refine ⟨congrArg (fun q => AV.val (.int .i64 q)) (fin), ?_⟩
              | refine ⟨congrArg (fun q => AV.slc 1 q) (fin), ?_⟩
              | refine ⟨congrArg (fun q => AV.slc 0 q) (fin), ?_⟩
              | refine ⟨congrArg (fun q => AV.val (.bool q)) (fin), ?_⟩
              | refine ⟨congrArg (fun q => AV.val (.int .i32 q)) (fin), ?_⟩
              | refine ⟨congrArg (fun q => AV.val (.string q)) (fin), ?_⟩
end Go.Proofs.Ytblafdmmebiagaa
namespace Go.Proofs.Ytblafdmmebiagaa
open Go.RowKit Go.Lib
def invO (ob ob2 ob2' obr : List Ob) (ρ ρ' : List (Option Nat)) : Bool := (List.range ob.length).all fun i => match invR ρ i with
  | some j => ρ'[i]? == some (some j) && (match ob[i]?, ob2[j]?, ob2'[j]?, obr[i]? with
    | some (.row _ _ _ e0 _), some (.row _ _ _ e2 _), some (.row _ _ _ e2' _), some (.row _ _ _ er _) => decide (e0 < er) || (e0 == er && e2 == e2')
    | _, _, _, _ => true)
  | none => false
section
variable {w w' : World} {g g' : Gh} {ob ob2 ob2' obr : List Ob} {ρ ρ' : List (Option Nat)}
theorem step_tell (hF : Fits ob ob2 ρ) (ho : onceR ρ = true) (hF' : Fits ob2' obr ρ') (ho' : onceR ρ' = true) (hi : invO ob ob2 ob2' obr ρ ρ' = true) (hn : ob.length ≤ obr.length) (h0 : Step w (g.ren ρ) ob2 w' g' ob2') : Step w g ob w' (g'.ren ρ') obr := by
  have head : ∀ i, i < ob.length → ∃ j, ρ[j]? = some (some i) ∧ ρ'[i]? = some (some j) ∧ ∀ e0 e2 e2' er et sz fz xs et2 sz2 fz2 xs2 et3 sz3 fz3 xs3 et4 sz4 fz4 xs4,
      ob[i]? = some (.row et sz fz e0 xs) → ob2[j]? = some (.row et2 sz2 fz2 e2 xs2) → ob2'[j]? = some (.row et3 sz3 fz3 e2' xs3) → obr[i]? = some (.row et4 sz4 fz4 er xs4) → e0 < er ∨ (e0 = er ∧ e2 = e2') := fun i hi' => by
    have := List.all_eq_true.1 hi i (List.mem_range.2 hi')
    split at this
    · rename_i j hj
      simp only [Bool.and_eq_true, beq_iff_eq] at this
      refine ⟨j, invR_get hj, this.1, ?_⟩
      intro e0 e2 e2' er et sz fz xs et2 sz2 fz2 xs2 et3 sz3 fz3 xs3 et4 sz4 fz4 xs4 h1 h2 h3 h4
      have h5 := this.2
      simp only [h1, h2, h3, h4, Bool.or_eq_true, Bool.and_eq_true, beq_iff_eq, decide_eq_true_eq] at h5
      exact h5
    · cases this
  refine ⟨h0.os, h0.tape, h0.output, h0.size, fun b hb hG => h0.keep b hb (by simp [Gh.ren, hG]), fun b id hG => ?_, fun b o hA => ?_, ⟨h0.ext.A, fun id hid => ?_, fun id hb => ?_, fun id hb => ?_, fun id et sz fz e xs hr => ?_, fun b id hG hs => ?_⟩, hn⟩
  · obtain ⟨i, _, h3⟩ := ren_Gof hG
    rcases h0.own b i h3 with ⟨id', h4⟩ | h4
    · obtain ⟨i', _, h5⟩ := ren_Gof h4
      exact .inl ⟨i', h5⟩
    · exact .inr h4
  · rcases h0.imm b o hA with h1 | ⟨id, h1⟩ | h1
    · exact .inl h1
    · obtain ⟨i', _, h5⟩ := ren_Gof h1
      exact .inr (.inl ⟨i', h5⟩)
    · exact .inr (.inr h1)
  · obtain ⟨j, h1, h2, _⟩ := head id hid
    have hj : j < ob2.length := hF.1 ▸ lt_of_some h1
    rw [ren_loc h2, h0.ext.loc j hj, ren_loc h1]
  · obtain ⟨j, h1, h2, _⟩ := head id (isBox_lt hb)
    exact hF'.isB h2 (h0.ext.isb j (hF.isB h1 hb))
  · obtain ⟨j, h1, h2, _⟩ := head id (isIt_lt hb)
    exact hF'.isI h2 (h0.ext.isi j (hF.isI h1 hb))
  · obtain ⟨j, h1, h2, h3⟩ := head id (lt_of_some hr)
    obtain ⟨fz2, e2, h4, _⟩ := hF.row h1 hr
    obtain ⟨fz3, e3, xs3, h5, h6, h7⟩ := h0.ext.row j et sz fz2 e2 xs h4
    obtain ⟨fz4, e4, h8, _⟩ := hF'.row h2 h5
    refine ⟨fz4, e4, xs3, h8, by rcases h3 _ _ _ _ _ _ _ _ _ _ _ _ _ _ _ _ _ _ _ _ hr h4 h5 h8 with h | h <;> omega, fun he => ?_⟩
    have hee : e3 = e2 := by
      rcases h3 _ _ _ _ _ _ _ _ _ _ _ _ _ _ _ _ _ _ _ _ hr h4 h5 h8 with h | h
      · omega
      · exact h.2.symm
    obtain ⟨h9, h10⟩ := h7 hee
    refine ⟨h9, fun b hb => ?_⟩
    obtain ⟨h11, h12⟩ := h10 b (ren_G ho h1 hb)
    exact ⟨ren_G ho' h2 h11, h12⟩
  · obtain ⟨et, sz, fz, fz', e, xs, xs', h4, h5⟩ := hs
    obtain ⟨j, h1, h2, h3⟩ := head id (lt_of_some h4)
    obtain ⟨fz2, e2, h6, _⟩ := hF.row h1 h4
    obtain ⟨fz3, e3, xs3, h7, h8, h9⟩ := h0.ext.row j et sz fz2 e2 xs h6
    obtain ⟨fz4, e4, h10, _⟩ := hF'.row h2 h7
    rw [h10] at h5
    obtain ⟨rfl, rfl, rfl⟩ : fz4 = fz' ∧ e4 = e ∧ xs3 = xs' := by simpa using h5
    have hee : e2 = e3 := by
      rcases h3 _ _ _ _ _ _ _ _ _ _ _ _ _ _ _ _ _ _ _ _ h4 h6 h7 h10 with h | h
      · omega
      · exact h.2
    subst hee
    have hG2 := ren_G (g := g) ho h1 hG
    obtain ⟨h11, h12⟩ := h0.ext.sub b j hG2 ⟨_, _, _, _, _, _, _, h6, h7⟩
    have hG3 := ((h9 rfl).2 b hG2).1
    have e1 := ren_sub (g := g) ho h1 hG
    have e2 := ren_sub (g := g') ho' h2 hG3
    exact ⟨e2.trans (h11.trans e1), fun hb => h12 (by rw [e1]; exact hb)⟩
theorem BCall.tell {P : Program} {f : Nat} {args args2 : List AV} {res2 res' res : AV} {l l' : Eqs} (h : BCall P f args2 ob2 res2 ob2') (ρ ρ' : List (Option Nat)) (h1 : onceR ρ = true) (h1' : onceR ρ' = true) (hi : invO ob ob2 ob2' obr ρ ρ' = true) (hn : ob.length ≤ obr.length)
    (ha : both (renTs ob ob2 ρ args args2) (renOs ob ob2 ρ ρ ob2) = some l) (hl : AllEq l) (hr : both (renR ob2' obr ρ' res2 res') (renOs ob2' obr ρ' ρ' obr) = some l') (hl' : AllEq l') (h6 : leA res' res) : BCall P f args ob res obr := by
  refine ⟨h.1, fun w g vs M hL => ?_⟩
  obtain ⟨⟨l1, e1, a1⟩, l2, e2, a2⟩ := both_some ha hl
  obtain ⟨⟨l3, e3, a3⟩, l4, e4, a4⟩ := both_some hr hl'
  have hF : Fits ob ob2 ρ := renOs_get _ _ _ e2 a2
  have hF' : Fits ob2' obr ρ' := renOs_get _ _ _ e4 a4
  obtain ⟨k1, k2⟩ := renTs_rel hF h1 _ _ _ _ e1 a1 hL.1 hL.2
  refine (h.2 w (g.ren ρ) vs (M.ren hF h1) ⟨k1, k2⟩).mono fun e w' ⟨v, g', k1, k2, k3, k4⟩ => ?_
  exact ⟨v, g'.ren ρ', k1, k2.ren hF' h1', leA_rel (renR_rel hF' h1' k3 e3 a3) h6, step_tell hF h1 hF' h1' hi hn k4⟩
end
section
variable {P : Program} {ty : Tys} {w0 : World} {g0 : Gh} {o0 : List Ob} {N : Nat}
theorem loop_ruleX (hT : TyOk P ty) (hm : P.follows .mixedOrders = true) {ord : Nat → OT} {c : Code} (hd : dstOk N c = true) (ho : ordOk .any ty ord c = true)
    {X : Type} (cs : X → Nat → List AV → List Ob → Option (AV × List Ob)) (S : X → St) (J : X → Prop) (μ : X → Nat) {Q : Ex → St → Prop} {s : St} (x0 : X) (h0 : J x0) (hS : Seen o0 s (S x0))
    (round : ∀ x, J x → (aexec std ty (cs x) ord c (fun e s => .leaf e s) (S x)).ok P w0 g0 o0 N (RoundOk o0 S J μ x Q)) : WP P w0 g0 o0 N (.loop c) Q s := by
  intro a w hs
  obtain ⟨ρ, l, hl, hE⟩ := hS
  let I : Act → World → Prop := fun a w => ∃ x, J x ∧ Sim w0 g0 o0 N (S x) a w
  let pm : Act → World → Nat → Prop := fun a w n => ∃ x, J x ∧ Sim w0 g0 o0 N (S x) a w ∧ μ x = n
  let m : Act → World → Nat := fun a w => open Classical in if h : ∃ n, pm a w n then Classical.choose (least _ h) else 0
  have hmin : ∀ a w, I a w → pm a w (m a w) ∧ ∀ k, pm a w k → m a w ≤ k := fun a w hI => by
    have h : ∃ n, pm a w n := by
      obtain ⟨x, h1, h2⟩ := hI
      exact ⟨μ x, x, h1, h2, rfl⟩
    have e : m a w = Classical.choose (least _ h) := dif_pos h
    rw [e]
    exact Classical.choose_spec (least _ h)
  refine wp_loop I m ⟨x0, h0, seen_sim ρ hl hE hs⟩ fun a w hI => ?_
  obtain ⟨⟨x, hJ, hx, hμ⟩, hle⟩ := hmin a w hI
  refine aexec_sound (Q := RoundOk o0 S J μ x Q) hT hm c _ _ (S x) a w hd ho (fun c a d v w h => ?_) (fun e s a' w' hs' hq => ?_) hx (round x hJ)
  · obtain ⟨e', s', h1, h2, h3⟩ := h
    cases e' <;> cases h1
  · cases e with
    | normal =>
      obtain ⟨x', h1, h2, ρ', l', h3, h4⟩ := hq
      have hs2 := seen_sim ρ' h3 h4 hs'
      have hI' : I a' w' := ⟨x', h1, hs2⟩
      refine ⟨hI', Nat.lt_of_le_of_lt ((hmin a' w' hI').2 _ ⟨x', h1, hs2, rfl⟩) ?_⟩
      rw [← hμ]; exact h2
    | exit i => exact ⟨.exit i, s, rfl, hs', hq⟩
    | ret => exact ⟨.ret, s, rfl, hs', hq⟩
end
end Go.Proofs.Ytblafdmmebiagaa
namespace Go.Proofs.Ytblafdmmebiagaa
open Go.RowKit Go.Lib
theorem at_map {α : Type} (f : α → AV) {l : List α} {i : Int} (h0 : 0 ≤ i) (h1 : i < l.length) (d : α) : std.at_ (l.map f) i = f (l[i.toNat]?.getD d) := by
  show (l.map f).getD i.toNat .dead = _
  rw [List.getD_eq_getElem?_getD]; exact getA f h0 h1 d
theorem int_cell {l : List Int} {i : Int} (h0 : 0 ≤ i) (h1 : i < l.length) : std.nth (std.cel (std.at_ (intsA l) i)) 0 = .val (.int .i64 (l[i.toNat]?.getD 0)) := by rw [intsA, at_map intA h0 h1 0]; rfl
theorem has_int {x : AV} {n : Int} {k : IntKind} (h : x = .val (.int k n)) : std.hasI k x := by subst h; rfl
theorem int_of {x : AV} {n : Int} {k : IntKind} (h : x = .val (.int k n)) : std.int x = n := by subst h; rfl
end Go.Proofs.Ytblafdmmebiagaa
namespace Go.Proofs.Ytblafdmmebiagaa
open Go.RowKit Go.Lib
inductive Cur where
  | root (n : Int)
  | kid (n f k : Int) (up : Cur)
  deriving Inhabited
def Cur.n : Cur → Int
  | .root n => n
  | .kid n _ _ _ => n
def Cur.f : Cur → Int
  | .root _ => 0
  | .kid _ f _ _ => f
def Cur.k : Cur → Int
  | .root _ => 0
  | .kid _ _ k _ => k
def upO (N : List AV) : Cur → AV
  | .root _ => .val (.pointer none)
  | .kid _ _ _ up => .ref [.ref [.slc 6 N], .val (.int .i64 up.n), .val (.int .i64 up.f), .val (.int .i64 up.k), .opt (upO N up)]
def Cur.cs (N : List AV) (c : Cur) : List AV := [.ref [.slc 6 N], .val (.int .i64 c.n), .val (.int .i64 c.f), .val (.int .i64 c.k), .opt (upO N c)]
def zeroC : List AV := [.val (.pointer none), .val (.int .i64 0), .val (.int .i64 0), .val (.int .i64 0), .val (.pointer none)]
def kidsAt (l : List Node) (c : Cur) : List Int := (nodeAt l c.n).kids
def downC (l : List Node) (c : Cur) (k : Int) : Cur := .kid ((kidsAt l c)[k.toNat]?.getD 0) (c.f + wsum l ((kidsAt l c).take k.toNat)) k c
def csRo (len : List AV → Int) : Nat → List AV → List Ob → Option (AV × List Ob) := fun f args _ => match f, args with
  | 53, [.ref [.slc 6 xs]] => some (.val (.int .i64 (len xs)), [])
  | _, _ => none
set_option maxRecDepth 20000 in
theorem Root_b (l : List Node) (n : Int) (h0 : 0 ≤ n) (h1 : n < l.length) : BCall Try.prog 34 [.ref [.slc 6 (nodesA l)], .val (.int .i64 n)] [] (.tup [.agg ((Cur.root n).cs (nodesA l)), .val (.int .i64 0)]) [] := by
  have cL := Len_l l
  have hlen : lenA (nodesA l) = l.length := by rw [lenA, nodes_len]
  refine bcall_of (cs := csRo lenA) (ord := fun _ => .nil) tyOk (by kernel_rfl) Try.func34 rfl (enters_of Try.func34 (by kernel_rfl) rfl) (Nat.le_of_ble_eq_true rfl) (by kernel_rfl) (by kernel_rfl) ?_
  intro w0 g0
  generalize hp : std = p
  generalize hlen : lenA = len
  generalize hN : nodesA l = N
  generalize hT : aexec p tys (csRo len) _ _ _ _ = T
  cbv at hT
  subst hT
  simp only [Tree.ok, RoundOk, Bool.false_eq_true, Bool.true_eq_false, false_implies, true_implies, and_true, true_and]
  subst hp hlen hN
  refine ⟨fun h => ?_, fun _ => ⟨cL, fun h => ?_, fun _ => .pure rfl ⟨⟨.inl rfl, .inl rfl, .inl rfl, .inl rfl, .inr (.inr (.inl ⟨rfl, trivial⟩)), trivial⟩, .inl rfl, trivial⟩⟩⟩
  · have h : n < 0 := of_decide_eq_true h
    omega
  · have h : lenA (nodesA l) ≤ n := of_decide_eq_true h
    omega
def csDn (kd : Int → List AV) (w : Int → Int) : Nat → List AV → List Ob → Option (AV × List Ob) := fun f args _ => match f, args with
  | 22, [.ref [.slc 6 _], .val (.int .i64 n)] => some (.slc 1 (kd n), [])
  | 10, [.ref [.slc 6 _], .val (.int .i64 n)] => some (.val (.int .i64 (w n)), [])
  | _, _ => none
set_option maxRecDepth 20000 in
set_option maxHeartbeats 1000000 in
theorem Down_no (l : List Node) (c : Cur) (k : Int) (hk : ¬ (0 ≤ k ∧ k < (kidsAt l c).length)) (hn : (kidsAt l c).length ≤ 1000000) : BCall Try.prog 35 [.agg (c.cs (nodesA l)), .val (.int .i64 k)] [] (.tup [.agg zeroC, .val (.bool false)]) [] := by
  have cK := Kids_b l c.n (by show (kidsAt l c).length ≤ _; omega)
  obtain ⟨m, hm⟩ := exLen (kidsAt l c)
  have hlen := ints_len (kidsAt l c)
  have hk : ¬ (0 ≤ k ∧ k < m) := by rw [hm.eq]; exact hk
  rename ¬ (0 ≤ k ∧ k < ((kidsAt l c).length : Int)) => hk0
  clear hk0
  obtain ⟨cn, hcn⟩ : ∃ x, x = c.n := ⟨_, rfl⟩
  obtain ⟨cf, hcf⟩ : ∃ x, x = c.f := ⟨_, rfl⟩
  obtain ⟨ck, hck⟩ : ∃ x, x = c.k := ⟨_, rfl⟩
  have hkN : kidsN l cn = intsA (kidsAt l c) := by rw [hcn]; rfl
  rw [Cur.cs, ← hcn, ← hcf, ← hck]
  rw [← hcn] at cK
  have cK : BCall Try.prog 22 [.ref [.slc 6 (nodesA l)], .val (.int .i64 cn)] [] (.slc 1 (kidsN l cn)) [] := cK
  refine bcall_of (cs := csDn (kidsN l) (widthN l)) (ord := fun _ => .nil) tyOk (by kernel_rfl) Try.func35 rfl (enters_of Try.func35 (by kernel_rfl) rfl) (Nat.le_of_ble_eq_true rfl) (by kernel_rfl) (by kernel_rfl) ?_
  intro w0 g0
  generalize hp : std = p
  generalize hkd : kidsN l = kd
  generalize hw : widthN l = w
  generalize hU : upO (nodesA l) c = U
  generalize hN : nodesA l = N
  generalize hT : aexec p tys (csDn kd w) _ _ _ _ = T
  cbv at hT
  subst hT
  simp only [Tree.ok, RoundOk, Bool.false_eq_true, Bool.true_eq_false, false_implies, true_implies, and_true, true_and]
  subst hp hkd hw hU hN
  have hkl : std.len (kidsN l cn) = m := by show ((kidsN l cn).length : Int) = _; rw [hkN, hlen, hm.eq]
  refine ⟨cK, fun _ => .pure rfl ⟨⟨.inl rfl, .inl rfl, .inl rfl, .inl rfl, .inl rfl, trivial⟩, .inl rfl, trivial⟩, fun h => ⟨fun _ => .pure rfl ⟨⟨.inl rfl, .inl rfl, .inl rfl, .inl rfl, .inl rfl, trivial⟩, .inl rfl, trivial⟩, fun h2 => ?_⟩⟩
  have h : ¬ k < 0 := of_decide_eq_false h
  have h2 : ¬ std.len (kidsN l cn) ≤ k := of_decide_eq_false h2
  rw [hkl] at h2
  omega
set_option maxRecDepth 20000 in
set_option maxHeartbeats 1000000 in
theorem Down_ok (l : List Node) (c : Cur) (k : Int) (h0 : 0 ≤ k) (h1 : k < (kidsAt l c).length) (hn : (kidsAt l c).length ≤ 1000000) (hw : ∀ n, 0 ≤ widthN l n) (hs : wsum l (kidsAt l c) ≤ 2147483647) (hf0 : 0 ≤ c.f) (hf1 : c.f ≤ 2147483647) :
    BCall Try.prog 35 [.agg (c.cs (nodesA l)), .val (.int .i64 k)] [] (.tup [.agg ((downC l c k).cs (nodesA l)), .val (.bool true)]) [] := by
  have cK := Kids_b l c.n (by show (kidsAt l c).length ≤ _; omega)
  have cW := fun n => Width_b l n
  obtain ⟨cn, hcn⟩ : ∃ x, x = c.n := ⟨_, rfl⟩
  obtain ⟨cf, hcf⟩ : ∃ x, x = c.f := ⟨_, rfl⟩
  obtain ⟨ck, hck⟩ : ∃ x, x = c.k := ⟨_, rfl⟩
  obtain ⟨ks, hks⟩ : ∃ x, x = kidsAt l c := ⟨_, rfl⟩
  obtain ⟨m, hm⟩ := exLen ks
  have hkN : kidsN l cn = intsA ks := by rw [hcn, hks]; rfl
  rw [← hks] at h1 hn hs
  rw [← hcf] at hf0 hf1
  have h1m : k < m := by rw [hm.eq]; exact h1
  have hlen := ints_len ks
  have hkl : std.len (kidsN l cn) = m := by show ((kidsN l cn).length : Int) = _; rw [hkN, hlen, hm.eq]
  have hE : (downC l c k).cs (nodesA l) = [.ref [.slc 6 (nodesA l)], .val (.int .i64 (ks[k.toNat]?.getD 0)), .val (.int .i64 (cf + wsum l (ks.take k.toNat))), .val (.int .i64 k), .opt (.ref [.ref [.slc 6 (nodesA l)], .val (.int .i64 cn), .val (.int .i64 cf), .val (.int .i64 ck), .opt (upO (nodesA l) c)])] := by
    rw [hks, hcf, hcn, hck]; rfl
  rw [hE, Cur.cs, ← hcn, ← hcf, ← hck]
  rw [← hcn] at cK
  have cK : BCall Try.prog 22 [.ref [.slc 6 (nodesA l)], .val (.int .i64 cn)] [] (.slc 1 (kidsN l cn)) [] := cK
  have hat := ints_at (l := ks) h0 h1
  have hcut : std.cut (intsA ks) 0 k = intsA (ks.take k.toNat) := by
    show ((intsA ks).drop (0 : Int).toNat).take (k - 0).toNat = _
    simp [intsA, List.map_take]
  clear h1 hE
  refine bcall_of (cs := csDn (kidsN l) (widthN l)) (ord := fun _ => .nil) tyOk (by kernel_rfl) Try.func35 rfl (enters_of Try.func35 (by kernel_rfl) rfl) (Nat.le_of_ble_eq_true rfl) (by kernel_rfl) (by kernel_rfl) ?_
  intro w0 g0
  generalize hp : std = p
  generalize hkd : kidsN l = kd
  generalize hw : widthN l = w
  generalize hU : upO (nodesA l) c = U
  generalize hN : nodesA l = N
  generalize hT : aexec p tys (csDn kd w) _ _ _ _ = T
  cbv at hT
  subst hT
  simp only [Tree.ok, RoundOk, Bool.false_eq_true, Bool.true_eq_false, false_implies, true_implies, and_true, true_and]
  subst hp hkd hw hU hN
  refine ⟨cK, fun h => ?_, fun _ => ⟨fun h => ?_, fun _ => ⟨?_, ?_⟩⟩⟩
  · have h : k < 0 := of_decide_eq_true h
    omega
  · have h : std.len (kidsN l cn) ≤ k := of_decide_eq_true h
    rw [hkl] at h; omega
  · show std.cutok 0 k (std.len (kidsN l cn))
    rw [hkl]; exact ⟨Int.le_refl _, h0, by omega⟩
  have hcl : std.len (intsA (ks.take k.toNat)) = k := by
    show ((intsA (ks.take k.toNat)).length : Int) = k
    have := hm.eq
    rw [ints_len, List.length_take]; omega
  rw [← hkN] at hcut
  obtain ⟨aw, haw⟩ : ∃ aw : Int → Int, aw = fun i => cf + wsum l (ks.take i.toNat) := ⟨_, rfl⟩
  have hwk : cf + wsum l (ks.take k.toNat) = aw k := by rw [haw]
  rw [hwk]
  have hcl2 : std.len (std.cut (kidsN l cn) 0 k) = k := by rw [hcut, hcl]
  refine loop_rule (cs := csDn (kidsN l) (widthN l)) (ord := fun _ => .nil) tyOk (by kernel_rfl) (by kernel_rfl) (by kernel_rfl) (X := Int) (fun i => ⟨[(1, .val (.int .i64 k)), (2, .box 0 0), (4, .box 1 0), (6, .slc 1 (intsA ks)), (7, .val (.int .i64 (aw i))), (28, .slc 1 (intsA (ks.take k.toNat))), (29, .val (.int .i64 k)), (30, .val (.int .i64 i))], [.box [.ref [.slc 6 (nodesA l)], .val (.int .i64 cn), .val (.int .i64 cf), .val (.int .i64 ck), .opt (upO (nodesA l) c)], .box zeroC]⟩) (fun i => 0 ≤ i ∧ i ≤ k) (fun i => (k - i).toNat) 0 ?_ ?_ ?_
  · exact ⟨Int.le_refl _, h0⟩
  · refine ⟨[some 0, some 1], _, rfl, ?_⟩
    have hw0 : cf = aw 0 := by rw [haw]; simp [wsum]
    repeat first
      | exact trivial
      | refine ⟨congrArg (AV.slc 1) hkN, ?_⟩
      | refine ⟨congrArg (AV.slc 1) hcut, ?_⟩
      | refine ⟨congrArg (fun n => AV.val (.int .i64 n)) hcl2, ?_⟩
      | refine ⟨congrArg (fun n => AV.val (.int .i64 n)) hw0, ?_⟩
      | refine ⟨rfl, ?_⟩
  · rintro i ⟨hi0, hi1⟩
    have hw1 := wsum_pos hw (ks.take i.toNat)
    have hw2 := wsum_le hw ks i.toNat
    rcases Int.lt_or_eq_of_le hi1 with hlt | heq
    · have hm1 := hm.eq
      have hil : i.toNat < ks.length := by omega
      have hx : (intsA (ks.take k.toNat))[i.toNat]?.getD .dead = .val (.int .i64 (ks[i.toNat]?.getD 0)) := by
        have := ints_at (l := ks.take k.toNat) (i := i) hi0 (by rw [List.length_take]; omega)
        rw [this, List.getElem?_take, if_pos (by omega)]
      have hxc := int_cell (l := ks.take k.toNat) (i := i) hi0 (by rw [List.length_take]; omega)
      rw [List.getElem?_take, if_pos (by omega)] at hxc
      have hnx : wsum l (ks.take (i + 1).toNat) = wsum l (ks.take i.toNat) + widthN l (ks[i.toNat]?.getD 0) := by
        rw [show (i + 1).toNat = i.toNat + 1 by omega, List.take_add_one, List.getElem?_eq_getElem hil]
        show (((ks.take i.toNat) ++ [ks[i.toNat]]).map (widthN l)).sum = _
        rw [List.map_append, List.sum_append]
        simp [wsum]
      have hw3 := wsum_le hw ks (i + 1).toNat
      rw [hnx] at hw3
      have hw4 := hw (ks[i.toNat]?.getD 0)
      have haw2 : aw (i + 1) = aw i + widthN l (ks[i.toNat]?.getD 0) := by rw [haw]; simp only [hnx]; omega
      have hawi : aw i = cf + wsum l (ks.take i.toNat) := by rw [haw]
      have hr1 : 0 ≤ aw i + widthN l (ks[i.toNat]?.getD 0) ∧ aw i + widthN l (ks[i.toNat]?.getD 0) ≤ 4294967294 := by omega
      obtain ⟨y, hy⟩ : ∃ y, y = ks[i.toNat]?.getD 0 := ⟨_, rfl⟩
      rw [← hy] at hx hxc haw2 hr1
      clear hm1 hw1 hw2 hw3 hnx hw4 hawi haw hwk
      have hlt' := hlt
      generalize hp : std = p
      generalize hkd : kidsN l = kd
      generalize hw : widthN l = w
      generalize hU : upO (nodesA l) c = U
      generalize hN : nodesA l = N
      generalize hKS : intsA ks = KS
      generalize hKT : intsA (ks.take k.toNat) = KT
      generalize hT : aexec p tys (csDn kd w) _ _ _ _ = T
      cbv at hT
      subst hT
      simp only [Tree.ok, RoundOk, Bool.false_eq_true, Bool.true_eq_false, false_implies, true_implies, and_true, true_and]
      subst hp hkd hw hU hN hKS hKT
      have hy3 := hxc
      have hy2 := int_of hxc
      have e1 : aw i + widthN l y = aw (i + 1) := haw2.symm
      refine ⟨fun _ => ⟨?_, ⟨?_, trivial⟩, cW _, ?_, ?_, i + 1, ⟨by omega, by omega⟩, by omega, [some 0, some 1], _, rfl, ?_⟩, fun h => ?_⟩
      · show 0 ≤ i ∧ i < std.len (intsA (ks.take k.toNat))
        rw [hcl]; omega
      · show std.nth (std.cel (std.at_ (intsA (ks.take k.toNat)) i)) 0 = .val (.int .i64 (std.int (std.nth (std.cel (std.at_ (intsA (ks.take k.toNat)) i)) 0)))
        rw [hy2, hy3]
      · show (-9223372036854775808 : Int) ≤ aw i + widthN l (std.int (std.nth (std.cel (std.at_ (intsA (ks.take k.toNat)) i)) 0)) ∧ aw i + widthN l (std.int (std.nth (std.cel (std.at_ (intsA (ks.take k.toNat)) i)) 0)) ≤ (9223372036854775807 : Int)
        rw [hy2]; omega
      · show (-9223372036854775808 : Int) ≤ i + 1 ∧ i + 1 ≤ (9223372036854775807 : Int)
        have := hm.eq
        omega
      · have e2 : std.add (aw i) (widthN l (std.int (std.nth (std.cel (std.at_ (intsA (ks.take k.toNat)) i)) 0))) = aw (i + 1) := by rw [hy2]; exact e1
        repeat first
          | exact trivial
          | refine ⟨rfl, ?_⟩
          | refine ⟨e2, ?_⟩
          | refine ⟨congrArg (fun q => AV.val (.int .i64 q)) (e2), ?_⟩
          | refine ⟨congrArg (fun q => AV.slc 1 q) (e2), ?_⟩
          | refine ⟨congrArg (fun q => AV.slc 0 q) (e2), ?_⟩
          | refine ⟨congrArg (fun q => AV.val (.bool q)) (e2), ?_⟩
          | refine ⟨congrArg (fun q => AV.val (.int .i32 q)) (e2), ?_⟩
          | refine ⟨congrArg (fun q => AV.val (.string q)) (e2), ?_⟩
      · have h : ¬ i < k := of_decide_eq_false h
        omega
    · rw [heq]
      clear hw1 hw2 haw hwk
      generalize hp : std = p
      generalize hkd : kidsN l = kd
      generalize hw : widthN l = w
      generalize hU : upO (nodesA l) c = U
      generalize hN : nodesA l = N
      generalize hKS : intsA ks = KS
      generalize hKT : intsA (ks.take k.toNat) = KT
      generalize hT : aexec p tys (csDn kd w) _ _ _ _ = T
      cbv at hT
      subst hT
      simp only [Tree.ok, RoundOk, Bool.false_eq_true, Bool.true_eq_false, false_implies, true_implies, and_true, true_and]
      subst hp hkd hw hU hN hKS hKT
      refine ⟨fun h => ?_, fun _ => ?_⟩
      · have h : k < k := of_decide_eq_true h
        omega
      rw [if_pos trivial]
      generalize hp : std = p
      generalize hkd : kidsN l = kd
      generalize hw : widthN l = w
      generalize hU : upO (nodesA l) c = U
      generalize hN : nodesA l = N
      generalize hKS : intsA ks = KS
      generalize hKT : intsA (ks.take k.toNat) = KT
      generalize hT : aexec p tys (csDn kd w) _ _ _ _ = T
      cbv at hT
      subst hT
      simp only [Tree.ok, RoundOk, Bool.false_eq_true, Bool.true_eq_false, false_implies, true_implies, and_true, true_and]
      subst hp hkd hw hU hN hKS hKT
      have hkm := hm.eq
      have hcl3 : std.len (intsA ks) = m := by show ((intsA ks).length : Int) = m; rw [ints_len, hm.eq]
      have hc := int_cell (l := ks) h0 (by omega)
      refine ⟨?_, ⟨has_int hc, trivial⟩, .pure rfl ⟨⟨.inl rfl, .inl (congrArg (fun q => AV.val (.int .i64 q)) (int_of hc)), .inl rfl, .inl rfl, .inr (.inr (.inl ⟨rfl, trivial⟩)), trivial⟩, .inl rfl, trivial⟩⟩
      show 0 ≤ k ∧ k < std.len (intsA ks)
      rw [hcl3]; omega
def csKi (k : Int → Int) : Nat → List AV → List Ob → Option (AV × List Ob) := fun f args _ => match f, args with
  | 24, [.ref [.slc 6 _], .val (.int .i64 n)] => some (.val (.int .i64 (k n)), [])
  | _, _ => none
theorem CKind_b (l : List Node) (c : Cur) : BCall Try.prog 21 [.agg (c.cs (nodesA l))] [] (.val (.int .i64 (nodeAt l c.n).kind)) [] := by
  have cK := Kind_b l c.n
  rw [Cur.cs]
  obtain ⟨cn, hcn⟩ : ∃ x, x = c.n := ⟨_, rfl⟩
  obtain ⟨cf, hcf⟩ : ∃ x, x = c.f := ⟨_, rfl⟩
  obtain ⟨ck, hck⟩ : ∃ x, x = c.k := ⟨_, rfl⟩
  rw [← hcn] at cK ⊢
  rw [← hcf, ← hck]
  refine bcall_of (cs := csKi (kindN l)) (ord := fun _ => .nil) tyOk (by kernel_rfl) Try.func21 rfl (enters_of Try.func21 (by kernel_rfl) rfl) (Nat.le_of_ble_eq_true rfl) (by kernel_rfl) (by kernel_rfl) ?_
  intro w0 g0
  generalize hp : std = p
  generalize hkd : kindN l = kd
  generalize hU : upO (nodesA l) c = U
  generalize hN : nodesA l = N
  generalize hT : aexec p tys (csKi kd) _ _ _ _ = T
  cbv at hT
  subst hT
  simp only [Tree.ok, RoundOk, Bool.false_eq_true, Bool.true_eq_false, false_implies, true_implies, and_true, true_and]
  subst hp hkd hU hN
  exact ⟨cK, .pure rfl (.inl rfl)⟩
def toC (l : List Node) : Cur → List Int → Option Cur
  | c, [] => some c
  | c, k :: r => if 0 ≤ k ∧ k < (kidsAt l c).length then toC l (downC l c k) r else none
def toCs (N : List AV) : Option Cur → List AV
  | some c => c.cs N
  | none => zeroC
def csToY (n f : Int) (k : Int) (U : List AV) : Nat → List AV → List Ob → Option (AV × List Ob) := fun g args _ => match g, args with
  | 35, [.agg [.ref [.slc 6 N], _, _, _, _], .val (.int .i64 _)] => some (.tup [.agg [.ref [.slc 6 N], .val (.int .i64 n), .val (.int .i64 f), .val (.int .i64 k), .opt (.ref U)], .val (.bool true)], [])
  | _, _ => none
def csToN : Nat → List AV → List Ob → Option (AV × List Ob) := fun g args _ => match g, args with
  | 35, [.agg [.ref [.slc 6 _], _, _, _, _], .val (.int .i64 _)] => some (.tup [.agg zeroC, .val (.bool false)], [])
  | _, _ => none
structure CurOk (l : List Node) (c : Cur) : Prop where
  n : (kidsAt l c).length ≤ 1000000
  s : wsum l (kidsAt l c) ≤ 2147483647
  f0 : 0 ≤ c.f
  f1 : c.f ≤ 2147483647
end Go.Proofs.Ytblafdmmebiagaa
namespace Go.Proofs.Ytblafdmmebiagaa
open Go.RowKit Go.Lib
def mk0 : Mk := ⟨[], [], [⟨[], []⟩]⟩
def markM (bs : List UInt8) : Mk := kidF 0 (addF (leafF 23 bs) mk0)
def firstM (b : List UInt8) : Mk := if 0 < (kindF b).2 then markM (b.take (kindF b).2.toNat) else mk0
def parseM (b : List UInt8) : Mk := allM (textF' b) b (firstM b)
def treeA (t : Txt) (m : Mk) : AV := .agg [.val (.int .i64 t.kind), .val (.int .i64 t.bom), .slc 1 (runesA t.r), .slc 1 (intsA t.off), .ref [.slc 6 (nodesA (rootM m).n)], .val (.int .i64 m.n.length), .slc 3 (dgsA m.d)]
def csPaM (kd bm : Int) (R O : List AV) (rt : Int) (an ad asx N1 S1 : List AV) : Nat → List AV → List Ob → Option (AV × List Ob) := fun f args ob => match f, args with
  | 26, [.slc 1 _] => some (.agg [.val (.int .i64 kd), .val (.int .i64 bm), .slc 1 R, .slc 1 O], [])
  | 27, [] => some (.box 0 0, [.box [.val (.slice none 0 0)]])
  | 29, [.box 0 0, .val (.int .i64 _), .slc 1 _] => match ob with
    | [.box [.val (.slice none 0 0)]] => some (.val (.int .i64 0), [.box [.row 1 1], .row 74 6 false 1 N1])
    | _ => none
  | 28, [.box 0 0, .val (.int .i64 _)] => match ob with
    | [.box [b, .box 1 0, .row 4 0], .box [k, m, r, o, .box 2 0, q, .val (.slice none 0 0)], .box [.row 3 0], .row 74 6 false 0 N, .row 66 2 false 0 _] =>
      some (.tup [], [.box [b, .box 1 0, .row 4 1], .box [k, m, r, o, .box 2 0, q, .row 5 1], .box [.row 3 1], .row 74 6 false 1 N, .row 66 2 false 1 S1, .row 47 3 false 1 []])
    | _ => none
  | 30, [.box 0 0] => match ob with
    | [.box [b, .box 1 0, .row 3 0], .box [k, m, r, o, .box 2 0, _, .val (.slice none 0 0)], .box [.val (.slice none 0 0)], .row 66 2 false 0 _] =>
      some (.tup [], [.box [b, .box 1 0, .row 3 1], .box [k, m, r, o, .box 2 0, .val (.int .i64 rt), .row 4 1], .box [.row 5 1], .row 66 2 false 1 asx, .row 47 3 false 1 ad, .row 74 6 false 1 an])
    | _ => withM ob fun b k m r o _ _ _ _ => some (.tup [], obM 1 b k m r o (.val (.int .i64 rt)) an ad asx)
  | _, _ => none
theorem mk0_inv : MkI mk0 [] 2 2 :=
  have h : ∀ x ∈ mk0.s, x = ⟨[], []⟩ := fun x hx => by simpa [mk0] using hx
  ⟨⟨ar_nil, (fun x hx => by rw [h x hx]; exact fun k hk => by cases hk), rfl, Nat.le_refl _, Nat.le_refl _, Nat.le_refl _, Nat.le_refl _, (fun x hx => by rw [h x hx]; exact Nat.zero_le _)⟩, Nat.le_refl _⟩
theorem mark_inv (bs : List UInt8) : MkI (markM bs) bs 3 2 := by
  have h := mk0_inv
  have ha := ar_leaf h.i.ar 23 bs
  exact ⟨inv_kid h.i ha.1 ha.2, co_leafkid h.i h.c 23 bs⟩
theorem upTo_zero (b : List UInt8) : upTo (textF' b) b 0 = b.take (kindF b).2.toNat := by
  rw [upTo, offA, show (0 : Int).toNat = 0 from rfl, (text_ok b).2.1]
theorem first_inv (b : List UInt8) : MkI (firstM b) (upTo (textF' b) b 0) 3 2 := by
  rw [upTo_zero, firstM]
  have hb := kind_bom b
  split
  · exact mark_inv _
  · have : (kindF b).2 = 0 := by omega
    rw [this]
    exact ⟨mk0_inv.i.mono (by omega) (Nat.le_refl _), mk0_inv.c⟩
theorem text_sml (b : List UInt8) (hb : b.length ≤ 100000) : Sml (textF' b) b := ⟨by omega, Nat.le_trans (text_ok b).2.2.1 (by omega), (text_ok b).1⟩
theorem all_new (t : Txt) (b : List UInt8) (hs : Sml t b) (B D : Nat) (iv : MkI mk0 (upTo t b 0) B D) (hB : B + 3 * t.r.length ≤ 600000) (hD : D + 3 * t.r.length ≤ 600000) :
    BCall Try.prog 30 [.box 0 0] [.box [.slc 1 (bytesA b), .box 1 0, .row 3 0], .box [.val (.int .i64 t.kind), .val (.int .i64 t.bom), .slc 1 (runesA t.r), .slc 1 (intsA t.off), .box 2 0, .val (.int .i64 0), .val (.slice none 0 0)], .box [.val (.slice none 0 0)], .row 66 2 false 0 (opnsA mk0.s)] (.tup [])
      [.box [.slc 1 (bytesA b), .box 1 0, .row 3 1], .box [.val (.int .i64 t.kind), .val (.int .i64 t.bom), .slc 1 (runesA t.r), .slc 1 (intsA t.off), .box 2 0, .val (.int .i64 (allM t b mk0).n.length), .row 4 1], .box [.row 5 1], .row 66 2 false 1 (opnsA (rootM (allM t b mk0)).s), .row 47 3 false 1 (dgsA (rootM (allM t b mk0)).d), .row 74 6 false 1 (nodesA (rootM (allM t b mk0)).n)] := by
  have h := all_b t b hs 0 mk0 B D iv hB hD
  unfold obT obM at h
  exact h.tell [some 0, some 1, some 2, none, none, some 3] [some 0, some 1, some 2, some 5, some 4, some 3] rfl rfl rfl (Nat.le_of_ble_eq_true rfl) rfl (by simp [AllEq, nodesA, dgsA, mk0]) (res' := .tup []) rfl (by simp [AllEq]) trivial
theorem kid_new (t : Txt) (b : List UInt8) (m : Mk) (hd : m.d = []) (hs : 1 ≤ m.s.length) (hn : m.s.length ≤ 1000000) (hk : (topF m.s).kids.length ≤ 1000000) (n : Int) :
    BCall Try.prog 28 [.box 0 0, .val (.int .i64 n)] [.box [.slc 1 (bytesA b), .box 1 0, .row 4 0], .box [.val (.int .i64 t.kind), .val (.int .i64 t.bom), .slc 1 (runesA t.r), .slc 1 (intsA t.off), .box 2 0, .val (.int .i64 0), .val (.slice none 0 0)], .box [.row 3 0], .row 74 6 false 0 (nodesA m.n), .row 66 2 false 0 (opnsA m.s)] (.tup [])
      [.box [.slc 1 (bytesA b), .box 1 0, .row 4 1], .box [.val (.int .i64 t.kind), .val (.int .i64 t.bom), .slc 1 (runesA t.r), .slc 1 (intsA t.off), .box 2 0, .val (.int .i64 0), .row 5 1], .box [.row 3 1], .row 74 6 false 1 (nodesA m.n), .row 66 2 false 1 (opnsA (kidS n m.s)), .row 47 3 false 1 []] := by
  have h := kid_b t b 0 m hs hn hk n
  unfold obT obM at h
  exact h.tell [some 0, some 1, some 2, some 3, none, some 4] [some 0, some 1, some 2, some 3, some 5, some 4] rfl rfl rfl (Nat.le_of_ble_eq_true rfl) rfl (by simp [AllEq, dgsA, hd]) (res' := .tup []) rfl (by simp [AllEq, dgsA, kidF, hd]) trivial
set_option maxRecDepth 20000 in
set_option maxHeartbeats 2000000 in
theorem Parse_b (b : List UInt8) (hb : b.length ≤ 100000) : BCall Try.prog 8 [.slc 1 (bytesA b)] [] (treeA (textF' b) (parseM b)) [] := by
  obtain ⟨ok, h1, h2, h3, h4⟩ := text_ok b
  have hs := text_sml b hb
  have cD := Decode_b b (by omega) (by omega) (fun x hx => by have := h4 x hx; omega)
  have hkb := kind_bom b
  have hE : parseM b = allM (textF' b) b (firstM b) := rfl
  have hiv := first_inv b
  have hrl := hs.hr
  have c0 := fun (h : firstM b = mk0) => all_new (textF' b) b hs 3 2 (by rw [← h]; exact hiv) (by omega) (by omega)
  have c1 := all_b (textF' b) b hs 0 (firstM b) 3 2 hiv (by omega) (by omega)
  rw [← hE] at c1
  obtain ⟨M, hM⟩ : ∃ M, M = parseM b := ⟨_, rfl⟩
  rw [← hM] at c1 hE ⊢
  have cL := Leaf0_b 23 (b.take (kindF b).2.toNat) (by rw [List.length_take]; omega)
  have cK := kid_new (textF' b) b (addF (leafF 23 (b.take (kindF b).2.toNat)) mk0) rfl (Nat.le_refl _) (Nat.le_of_ble_eq_true rfl) (Nat.zero_le _) 0
  obtain ⟨t, ht⟩ : ∃ t, t = textF' b := ⟨_, rfl⟩
  have htb : t.bom = (kindF b).2 := by rw [ht]; rfl
  rw [← ht] at cD c0 c1 cK hE ⊢
  rw [← htb] at cL cK hkb
  have hf : firstM b = if 0 < t.bom then markM (b.take t.bom.toNat) else mk0 := by rw [htb]; rfl
  obtain ⟨nb, hnb⟩ := exLen b
  have hbn : t.bom ≤ nb := by rw [hnb.eq]; exact hkb.2
  have hb0 := hkb.1
  have hcut : std.cut (bytesA b) 0 t.bom = bytesA (b.take t.bom.toNat) := by
    show ((bytesA b).drop (0 : Int).toNat).take (t.bom - 0).toNat = _
    simp [bytesA, List.map_take]
  have hbl := bytes_len b
  clear h1 h2 h3 h4 hkb hrl
  refine bcall_of (cs := csPaM t.kind t.bom (runesA t.r) (intsA t.off) M.n.length (nodesA (rootM M).n) (dgsA M.d) (opnsA M.s) (nodesA [leafF 23 (b.take t.bom.toNat)]) (opnsA (kidS 0 mk0.s))) (ord := fun _ => .nil) tyOk (by kernel_rfl) Try.func8 rfl (enters_of Try.func8 (by kernel_rfl) rfl) (Nat.le_of_ble_eq_true rfl) (by kernel_rfl) (by kernel_rfl) ?_
  intro w0 g0
  generalize hp : std = p
  generalize hN1 : nodesA [leafF 23 (b.take t.bom.toNat)] = N1
  generalize hS1 : opnsA (kidS 0 mk0.s) = S1
  generalize hrt : (M.n.length : Int) = rt
  generalize han : nodesA (rootM M).n = an
  generalize had : dgsA M.d = ad
  generalize hasx : opnsA M.s = asx
  generalize hbm : t.bom = bm
  generalize hkd : t.kind = kd
  generalize hR : runesA t.r = R
  generalize hO : intsA t.off = O
  generalize hB' : bytesA b = B'
  generalize hT : aexec p tys (csPaM kd bm R O rt an ad asx N1 S1) _ _ _ _ = T
  cbv at hT
  subst hT
  simp only [Tree.ok, RoundOk, Bool.false_eq_true, Bool.true_eq_false, false_implies, true_implies, and_true, true_and]
  subst hp hN1 hS1 hrt han had hasx hbm hkd hR hO hB'
  refine ⟨cD, New_b, fun h => ⟨?_, ?_, cK, ?_, .pure rfl ⟨.inl rfl, .inl rfl, .inl rfl, .inl rfl, .inl rfl, .inl rfl, .inl rfl, trivial⟩⟩, fun h => ⟨?_, .pure rfl ⟨.inl rfl, .inl rfl, .inl rfl, .inl rfl, .inl rfl, .inl rfl, .inl rfl, trivial⟩⟩⟩
  · show 0 ≤ (0 : Int) ∧ 0 ≤ t.bom ∧ t.bom ≤ ((bytesA b).length : Int)
    have := hnb.eq
    rw [hbl]; omega
  · show BCall _ _ [.box 0 0, .val (.int .i64 23), .slc 1 (std.cut (bytesA b) 0 t.bom)] _ _ _
    rw [hcut]; exact cL
  · have h : 0 < t.bom := of_decide_eq_true h
    rw [if_pos h] at hf
    rw [hf] at c1
    exact c1
  · have h : ¬ 0 < t.bom := of_decide_eq_false h
    rw [if_neg h] at hf
    have c := c0 hf
    rw [hf] at hE
    rw [← hE] at c
    exact c
def csTp (pr : Int → List AV) : Nat → List AV → List Ob → Option (AV × List Ob) := fun f args _ => match f, args with
  | 31, [.ref [.slc 6 _], .val (.int .i64 n)] => some (.slc 1 (pr n), [])
  | _, _ => none
def prA (l : List Node) (n : Int) : List AV := bytesA (pr l n)
structure PrOk (l : List Node) (n : Int) : Prop where
  len : l.length ≤ 1000000000
  wf : Wf l
  wide : Wide l
  h0 : 0 ≤ n
  h1 : n < l.length
  p : (pr l n).length ≤ 1000000
  c : co l n ≤ 1000000
theorem TPrint_b (t : Txt) (m : Mk) (h : PrOk (rootM m).n m.n.length) : BCall Try.prog 9 [treeA t m] [] (.slc 1 (bytesA (pr (rootM m).n m.n.length))) [] := by
  have cP := Print_b (rootM m).n h.len h.wf h.wide m.n.length h.h0 h.h1 h.p h.c
  obtain ⟨rt, hrt⟩ : ∃ rt : Int, rt = m.n.length := ⟨_, rfl⟩
  obtain ⟨l, hl⟩ : ∃ l, l = (rootM m).n := ⟨_, rfl⟩
  unfold treeA
  rw [← hrt, ← hl] at cP ⊢
  clear h
  refine bcall_of (cs := csTp (prA l)) (ord := fun _ => .nil) tyOk (by kernel_rfl) Try.func9 rfl (enters_of Try.func9 (by kernel_rfl) rfl) (Nat.le_of_ble_eq_true rfl) (by kernel_rfl) (by kernel_rfl) ?_
  intro w0 g0
  generalize hp : std = p
  generalize hpr : prA l = pr
  generalize hN : nodesA l = N
  generalize hR : runesA t.r = R
  generalize hO : intsA t.off = O
  generalize hD' : dgsA m.d = D'
  generalize hK : t.kind = K
  generalize hM : t.bom = M
  generalize hT : aexec p tys (csTp pr) _ _ _ _ = T
  cbv at hT
  subst hT
  simp only [Tree.ok, RoundOk, Bool.false_eq_true, Bool.true_eq_false, false_implies, true_implies, and_true, true_and]
  subst hp hpr hN hR hO hD' hK hM
  exact ⟨cP, .pure rfl (.inl rfl)⟩
def csTc (N : List AV) : Nat → List AV → List Ob → Option (AV × List Ob) := fun f args _ => match f, args with
  | 34, [.ref [.slc 6 _], .val (.int .i64 n)] => some (.tup [.agg [.ref [.slc 6 N], .val (.int .i64 n), .val (.int .i64 0), .val (.int .i64 0), .opt (.val (.pointer none))], .val (.int .i64 0)], [])
  | _, _ => none
theorem TCursor_b (t : Txt) (m : Mk) : BCall Try.prog 12 [treeA t m] [] (.agg ((Cur.root m.n.length).cs (nodesA (rootM m).n))) [] := by
  have cR := Root_b (rootM m).n m.n.length (by omega) (by show (m.n.length : Int) < ((m.n ++ [_]).length : Int); simp only [List.length_append, List.length_singleton]; omega)
  obtain ⟨rt, hrt⟩ : ∃ rt : Int, rt = m.n.length := ⟨_, rfl⟩
  obtain ⟨l, hl⟩ : ∃ l, l = (rootM m).n := ⟨_, rfl⟩
  unfold treeA
  rw [← hrt, ← hl] at cR ⊢
  refine bcall_of (cs := csTc (nodesA l)) (ord := fun _ => .nil) tyOk (by kernel_rfl) Try.func12 rfl (enters_of Try.func12 (by kernel_rfl) rfl) (Nat.le_of_ble_eq_true rfl) (by kernel_rfl) (by kernel_rfl) ?_
  intro w0 g0
  generalize hp : std = p
  generalize hN : nodesA l = N
  generalize hR : runesA t.r = R
  generalize hO : intsA t.off = O
  generalize hD' : dgsA m.d = D'
  generalize hK : t.kind = K
  generalize hM : t.bom = M
  generalize hT : aexec p tys (csTc N) _ _ _ _ = T
  cbv at hT
  subst hT
  simp only [Tree.ok, RoundOk, Bool.false_eq_true, Bool.true_eq_false, false_implies, true_implies, and_true, true_and]
  subst hp hN hR hO hD' hK hM
  exact ⟨cR, .pure rfl ⟨.inl rfl, .inl rfl, .inl rfl, .inl rfl, .inl rfl, trivial⟩⟩
theorem Short_b (b : List UInt8) : BCall Try.prog 7 [.slc 1 (bytesA b)] [] (.slc 1 (bytesA (b.take 400))) [] := by
  obtain ⟨n, hn⟩ := exLen b
  have hbl := bytes_len b
  have hlen : std.len (bytesA b) = n := by show ((bytesA b).length : Int) = n; rw [hbl, hn.eq]
  refine bcall_of (cs := cs0) (ord := fun _ => .nil) tyOk (by kernel_rfl) Try.func7 rfl (enters_of Try.func7 (by kernel_rfl) rfl) (Nat.le_of_ble_eq_true rfl) (by kernel_rfl) (by kernel_rfl) ?_
  intro w0 g0
  generalize hp : std = p
  generalize hB' : bytesA b = B'
  generalize hT : aexec p tys (cs0) _ _ _ _ = T
  cbv at hT
  subst hT
  simp only [Tree.ok, RoundOk, Bool.false_eq_true, Bool.true_eq_false, false_implies, true_implies, and_true, true_and]
  subst hp hB'
  refine ⟨fun h => ⟨?_, .pure rfl (.inl ?_)⟩, fun h => .pure rfl (.inl ?_)⟩
  · have h : 400 < std.len (bytesA b) := of_decide_eq_true h
    show 0 ≤ (0 : Int) ∧ 0 ≤ (400 : Int) ∧ (400 : Int) ≤ std.len (bytesA b)
    omega
  · show AV.slc 1 (((bytesA b).drop (0 : Int).toNat).take ((400 : Int) - 0).toNat) = _
    simp [bytesA, List.map_take]
  · have h : ¬ 400 < std.len (bytesA b) := of_decide_eq_false h
    have := hn.eq
    rw [List.take_of_length_le (by omega)]
end Go.Proofs.Ytblafdmmebiagaa
namespace Go.Proofs.Ytblafdmmebiagaa
open Go.RowKit Go.Lib
theorem toC_app (l : List Node) : ∀ (p : List Int) (c : Cur) (q : List Int), toC l c (p ++ q) = (toC l c p).bind fun x => toC l x q
  | [], _, _ => rfl
  | k :: r, c, q => by
    show (if _ then _ else _) = Option.bind (if _ then _ else _) _
    split
    · exact toC_app l r _ q
    · rfl
def csTo (l : List Node) (pt : List Int) (x : Int × Cur) : Nat → List AV → List Ob → Option (AV × List Ob) :=
  if x.1.toNat < pt.length ∧ 0 ≤ pt[x.1.toNat]?.getD 0 ∧ pt[x.1.toNat]?.getD 0 < (kidsAt l x.2).length then
    csToY (downC l x.2 (pt[x.1.toNat]?.getD 0)).n (downC l x.2 (pt[x.1.toNat]?.getD 0)).f (pt[x.1.toNat]?.getD 0) (x.2.cs (nodesA l))
  else csToN
set_option maxRecDepth 20000 in
set_option maxHeartbeats 1000000 in
theorem To_b (l : List Node) (hw : ∀ n, 0 ≤ widthN l n) (c : Cur) (pt : List Int) (hp : pt.length ≤ 1000000) (hok : ∀ j x, toC l c (pt.take j) = some x → CurOk l x) :
    BCall Try.prog 33 [.agg (c.cs (nodesA l)), .slc 1 (intsA pt)] [] (.tup [.agg (toCs (nodesA l) (toC l c pt)), .val (.bool (toC l c pt).isSome)]) [] := by
  obtain ⟨m, hm⟩ := exLen pt
  have hlen : std.len (intsA pt) = m := by show ((intsA pt).length : Int) = m; rw [ints_len, hm.eq]
  obtain ⟨R, hR⟩ : ∃ R, R = toC l c pt := ⟨_, rfl⟩
  rw [← hR]
  obtain ⟨cn, hcn⟩ : ∃ x, x = c.n := ⟨_, rfl⟩
  obtain ⟨cf, hcf⟩ : ∃ x, x = c.f := ⟨_, rfl⟩
  obtain ⟨ck, hck⟩ : ∃ x, x = c.k := ⟨_, rfl⟩
  rw [Cur.cs, ← hcn, ← hcf, ← hck]
  refine bcall_of (cs := cs0) (ord := fun _ => .nil) tyOk (by kernel_rfl) Try.func33 rfl (enters_of Try.func33 (by kernel_rfl) rfl) (Nat.le_of_ble_eq_true rfl) (by kernel_rfl) (by kernel_rfl) ?_
  intro w0 g0
  generalize hp : std = p
  generalize hU : upO (nodesA l) c = U
  generalize hN : nodesA l = N
  generalize hPA : intsA pt = PA
  generalize hT : aexec p tys (cs0) _ _ _ _ = T
  cbv at hT
  subst hT
  simp only [Tree.ok, RoundOk, Bool.false_eq_true, Bool.true_eq_false, false_implies, true_implies, and_true, true_and]
  subst hp hU hN hPA
  refine loop_ruleX (cs := csTo l pt) (ord := fun _ => .nil) tyOk (by kernel_rfl) (by kernel_rfl) (by kernel_rfl) (X := Int × Cur) (fun x => ⟨[(2, .box 0 0), (4, .box 1 0), (14, .slc 1 (intsA pt)), (15, .val (.int .i64 m)), (16, .val (.int .i64 x.1))], [.box (x.2.cs (nodesA l)), .box zeroC]⟩) (fun x => 0 ≤ x.1 ∧ x.1 ≤ m ∧ toC l c (pt.take x.1.toNat) = some x.2 ∧ toC l x.2 (pt.drop x.1.toNat) = R) (fun x => (m - x.1).toNat) (0, c) ?_ ?_ ?_
  · exact ⟨Int.le_refl _, by have := hm.eq; show (0 : Int) ≤ m; omega, rfl, hR.symm⟩
  · refine ⟨[some 0, some 1], _, rfl, ?_⟩
    subst hcn hcf hck
    repeat first
      | exact trivial
      | refine ⟨rfl, ?_⟩
      | refine ⟨hlen, ?_⟩
      | refine ⟨congrArg (fun q => AV.val (.int .i64 q)) (hlen), ?_⟩
      | refine ⟨congrArg (fun q => AV.slc 1 q) (hlen), ?_⟩
      | refine ⟨congrArg (fun q => AV.slc 0 q) (hlen), ?_⟩
      | refine ⟨congrArg (fun q => AV.val (.bool q)) (hlen), ?_⟩
      | refine ⟨congrArg (fun q => AV.val (.int .i32 q)) (hlen), ?_⟩
      | refine ⟨congrArg (fun q => AV.val (.string q)) (hlen), ?_⟩
  · rintro ⟨i, x⟩ ⟨hi0, hi1, ht, hd⟩
    simp only at hi0 hi1 ht hd
    have hx := hok _ _ ht
    obtain ⟨xn, hxn⟩ : ∃ y, y = x.n := ⟨_, rfl⟩
    obtain ⟨xf, hxf⟩ : ∃ y, y = x.f := ⟨_, rfl⟩
    obtain ⟨xk, hxk⟩ : ∃ y, y = x.k := ⟨_, rfl⟩
    rcases Int.lt_or_eq_of_le hi1 with hlt | heq
    · have hil : i.toNat < pt.length := by have := hm.eq; omega
      have hpc := int_cell (l := pt) hi0 (by have := hm.eq; omega)
      obtain ⟨k, hk⟩ : ∃ k, k = pt[i.toNat]?.getD 0 := ⟨_, rfl⟩
      have hke : pt[i.toNat]? = some k := by rw [hk, List.getElem?_eq_getElem hil]; rfl
      have hdr : pt.drop i.toNat = k :: pt.drop (i + 1).toNat := by
        rw [show (i + 1).toNat = i.toNat + 1 by omega, List.drop_eq_getElem_cons hil, hk, List.getElem?_eq_getElem hil]; rfl
      have htk : pt.take (i + 1).toNat = pt.take i.toNat ++ [k] := by
        rw [show (i + 1).toNat = i.toNat + 1 by omega, List.take_add_one, hke]; rfl
      rw [← hk] at hpc
      rw [hdr] at hd
      have hbd : (m : Int) ≤ 1000000 := by have := hm.eq; omega
      by_cases hin : 0 ≤ k ∧ k < (kidsAt l x).length
      · have cD := Down_ok l x k hin.1 hin.2 hx.n hw hx.s hx.f0 hx.f1
        have ht2 : toC l c (pt.take (i + 1).toNat) = some (downC l x k) := by
          rw [htk, toC_app, ht]
          show (if _ then _ else _) = _
          rw [if_pos hin]; rfl
        have hd2 : toC l (downC l x k) (pt.drop (i + 1).toNat) = R := by
          rw [← hd]
          show _ = (if _ then _ else _)
          rw [if_pos hin]
        have hcs : csTo l pt (i, x) = csToY (downC l x k).n (downC l x k).f k (x.cs (nodesA l)) := by
          rw [hk] at hin ⊢
          exact if_pos ⟨hil, hin⟩
        rw [hcs]
        obtain ⟨d, hd'⟩ : ∃ d, d = downC l x k := ⟨_, rfl⟩
        have hdk : d.k = k := by rw [hd']; rfl
        have hdu : upO (nodesA l) d = .ref (x.cs (nodesA l)) := by rw [hd']; rfl
        rw [← hd'] at cD ht2 hd2 ⊢
        obtain ⟨dn, hdn⟩ : ∃ y, y = d.n := ⟨_, rfl⟩
        obtain ⟨df, hdf⟩ : ∃ y, y = d.f := ⟨_, rfl⟩
        rw [← hdn, ← hdf]
        simp only [Cur.cs] at cD ⊢
        rw [hdu, hdk, ← hdn, ← hdf] at cD
        simp only [Cur.cs] at cD
        rw [← hxn, ← hxf, ← hxk] at cD ⊢
        clear hin hcs hdr htk hd
        generalize hp : std = p
        generalize hU : upO (nodesA l) x = U
        generalize hN : nodesA l = N
        generalize hPA : intsA pt = PA
        generalize hT : aexec p tys (csToY dn df k [.ref [.slc 6 N], .val (.int .i64 xn), .val (.int .i64 xf), .val (.int .i64 xk), .opt U]) _ _ _ _ = T
        cbv at hT
        subst hT
        simp only [Tree.ok, RoundOk, Bool.false_eq_true, Bool.true_eq_false, false_implies, true_implies, and_true, true_and]
        subst hp hU hN hPA
        refine ⟨fun _ => ⟨?_, ⟨has_int hpc, trivial⟩, ?_, fun h => ?_, fun _ => ⟨?_, (i + 1, d), ⟨?_, ?_, ht2, hd2⟩, ?_, [some 0, some 1], _, rfl, ?_⟩⟩, fun h => ?_⟩
        · show 0 ≤ i ∧ i < std.len (intsA pt)
          rw [hlen]; omega
        · show BCall _ _ [.agg _, .val (.int .i64 (std.int (std.nth (std.cel (std.at_ (intsA pt) i)) 0)))] _ _ _
          rw [int_of hpc]; exact cD
        · exact absurd h (by decide)
        · show (-9223372036854775808 : Int) ≤ i + 1 ∧ i + 1 ≤ (9223372036854775807 : Int)
          omega
        · show 0 ≤ i + 1
          omega
        · show i + 1 ≤ m
          omega
        · show (m - (i + 1)).toNat < (m - i).toNat
          omega
        · have eu : upO (nodesA l) d = .ref [.ref [.slc 6 (nodesA l)], .val (.int .i64 xn), .val (.int .i64 xf), .val (.int .i64 xk), .opt (upO (nodesA l) x)] := by rw [hdu, hxn, hxf, hxk]; rfl
          simp only [Cur.cs]
          rw [eu, hdk, ← hdn, ← hdf]
          repeat first
            | exact trivial
            | refine ⟨rfl, ?_⟩
            | refine ⟨rfl, ?_⟩
            | refine ⟨congrArg (fun q => AV.val (.int .i64 q)) (rfl), ?_⟩
            | refine ⟨congrArg (fun q => AV.slc 1 q) (rfl), ?_⟩
            | refine ⟨congrArg (fun q => AV.slc 0 q) (rfl), ?_⟩
            | refine ⟨congrArg (fun q => AV.val (.bool q)) (rfl), ?_⟩
            | refine ⟨congrArg (fun q => AV.val (.int .i32 q)) (rfl), ?_⟩
            | refine ⟨congrArg (fun q => AV.val (.string q)) (rfl), ?_⟩
        · have h : ¬ i < m := of_decide_eq_false h
          omega
      · have cD := Down_no l x k hin hx.n
        have hRn : R = none := by
          rw [← hd]
          show (if _ then _ else _) = _
          rw [if_neg hin]
        have hcs : csTo l pt (i, x) = csToN := by
          rw [hk] at hin
          exact if_neg fun h => hin h.2
        rw [hcs, hRn]
        simp only [Cur.cs] at cD ⊢
        rw [← hxn, ← hxf, ← hxk] at cD ⊢
        clear hin hcs hdr htk hd
        generalize hp : std = p
        generalize hU : upO (nodesA l) x = U
        generalize hN : nodesA l = N
        generalize hPA : intsA pt = PA
        generalize hT : aexec p tys (csToN) _ _ _ _ = T
        cbv at hT
        subst hT
        simp only [Tree.ok, RoundOk, Bool.false_eq_true, Bool.true_eq_false, false_implies, true_implies, and_true, true_and]
        subst hp hU hN hPA
        refine ⟨fun _ => ⟨?_, ⟨has_int hpc, trivial⟩, ?_, fun h => ?_, fun h => ?_⟩, fun h => ?_⟩
        · show 0 ≤ i ∧ i < std.len (intsA pt)
          rw [hlen]; omega
        · show BCall _ _ [.agg _, .val (.int .i64 (std.int (std.nth (std.cel (std.at_ (intsA pt) i)) 0)))] _ _ _
          rw [int_of hpc]; exact cD
        · generalize hp : std = p
          generalize hU : upO (nodesA l) x = U
          generalize hN : nodesA l = N
          generalize hPA : intsA pt = PA
          generalize hT : endK p tys false _ _ _ = T
          cbv at hT
          subst hT
          simp only [Tree.ok, RoundOk, Bool.false_eq_true, Bool.true_eq_false, false_implies, true_implies, and_true, true_and]
          subst hp hU hN hPA
          exact .pure rfl ⟨⟨.inl rfl, .inl rfl, .inl rfl, .inl rfl, .inl rfl, trivial⟩, .inl rfl, trivial⟩
        · exact absurd h (by decide)
        · have h : ¬ i < m := of_decide_eq_false h
          omega
    · have hd0 : pt.drop i.toNat = [] := List.drop_eq_nil_of_le (by have := hm.eq; omega)
      rw [hd0] at hd
      have hRs : R = some x := hd.symm
      rw [hRs, heq]
      have hcs : csTo l pt (m, x) = csToN := by
        refine if_neg fun h => ?_
        have := h.1
        have := hm.eq
        omega
      simp only [Cur.cs]
      rw [← hxn, ← hxf, ← hxk, hcs]
      generalize hp : std = p
      generalize hU : upO (nodesA l) x = U
      generalize hN : nodesA l = N
      generalize hPA : intsA pt = PA
      generalize hT : aexec p tys (csToN) _ _ _ _ = T
      cbv at hT
      subst hT
      simp only [Tree.ok, RoundOk, Bool.false_eq_true, Bool.true_eq_false, false_implies, true_implies, and_true, true_and]
      subst hp hU hN hPA
      refine ⟨fun h => ?_, fun _ => ?_⟩
      · have h : m < m := of_decide_eq_true h
        omega
      rw [if_pos trivial]
      generalize hp : std = p
      generalize hU : upO (nodesA l) x = U
      generalize hN : nodesA l = N
      generalize hPA : intsA pt = PA
      generalize hT : aexec p tys cs0 _ _ _ _ = T
      cbv at hT
      subst hT
      simp only [Tree.ok, RoundOk, Bool.false_eq_true, Bool.true_eq_false, false_implies, true_implies, and_true, true_and]
      subst hp hU hN hPA
      subst hxn hxf hxk
      exact .pure rfl ⟨⟨.inl rfl, .inl rfl, .inl rfl, .inl rfl, .inl rfl, trivial⟩, .inl rfl, trivial⟩
end Go.Proofs.Ytblafdmmebiagaa
namespace Go.Proofs.Ytblafdmmebiagaa
open Go.RowKit Go.Lib
def exB : List UInt8 := [60, 97, 62, 60, 98, 62, 60, 47, 97, 62]
theorem ex_d : (parseM exB).d = [⟨6, 6, 4⟩] := by cbv
theorem ex_to : (toC (rootM (parseM exB)).n (Cur.root (parseM exB).n.length) [0, 1, 1]).map (fun c => (nodeAt (rootM (parseM exB)).n c.n).kind) = some 22 := by cbv
end Go.Proofs.Ytblafdmmebiagaa
namespace Go.Proofs.Ytblafdmmebiagaa
open Go.RowKit Go.Lib
def planL (g : Nat → Option (List Srt)) (ty : Tys) : Nat → List Field → Option (List Srt)
  | _, [] => some []
  | off, f :: r => if f.name ≠ "_" ∧ f.offset = off ∧ (tyLook f.type ty).ok = true then
      (match g f.type, planL g ty (off + (tyLook f.type ty).size) r with
      | some s, some q => if s.length = (tyLook f.type ty).size then some (s ++ q) else none
      | _, _ => none) else none
def eqPlan (P : Program) (ty : Tys) : Nat → Nat → Option (List Srt)
  | 0, _ => none
  | d + 1, t => match P.underlying t with
    | some (.struct fs) => if P.stoodInHeld t = false then planL (eqPlan P ty d) ty 0 fs.toList else none
    | some .bool => some [.boo]
    | some .string => some [.str]
    | some (.int k) => some [.int k]
    | _ => none
section
variable {P : Program} {ty : Tys}
def mkV (ty : Tys) (t : Nat) (xs : List Value) : Value := if (tyLook t ty).agg = true then .agg xs.toArray else xs.headD undef
def allV (xs ys : List Value) : Bool := (xs.zip ys).all fun q => eqV q.1 q.2
theorem allV_app {a b c d : List Value} (h : a.length = c.length) : allV (a ++ b) (c ++ d) = (allV a c && allV b d) := by
  unfold allV
  rw [List.zip_append h, List.all_append]
theorem srt_len {xs : List Value} {sh : List Srt} (h : xs.map srtV = sh.map some) : xs.length = sh.length := by
  have := congrArg List.length h
  simpa using this
theorem srt_one {xs : List Value} {s : Srt} (h : xs.map srtV = [s].map some) : ∃ x, xs = [x] ∧ srtV x = some s := by
  cases xs with
  | nil => cases h
  | cons x t =>
    obtain ⟨h1, h2⟩ := List.cons.inj h
    obtain rfl : t = [] := by simpa using h2
    exact ⟨x, rfl, h1⟩
theorem agg_of (hT : TyOk P ty) {t : Nat} (hk : (tyLook t ty).ok = true) {d : TypeDesc} (h : P.underlying t = some d) : (tyLook t ty).agg = (shapeOf d).1 := by
  obtain ⟨d', h1, h2⟩ := (ty_ok hT hk).u
  rw [h] at h1
  cases h1
  rw [h2]
theorem part_ok (hT : TyOk P ty) {t : Nat} (hk : (tyLook t ty).ok = true) (xs : List Value) (off : Nat) (hl : off + (tyLook t ty).size ≤ xs.length) (W : World) :
    (part t xs.toArray off).run P W = .ok (mkV ty t ((xs.drop off).take (tyLook t ty).size)) W := by
  have ti := ty_ok hT hk
  unfold part mkV
  rw [Sem.run_bind, ti.isAgg W]
  simp only [Result.andThen_ok]
  by_cases hg : (tyLook t ty).agg = true
  · rw [if_pos hg, if_pos hg, Sem.run_bind, ti.size W]
    simp only [Result.andThen_ok, Sem.run_pure]
    congr 2
    apply Array.toList_inj.1
    simp [List.take_drop]
  · rw [if_neg hg, if_neg hg]
    have h1 := ti.one (by simpa using hg)
    rw [h1]
    have h2 : off < xs.length := by omega
    have : xs.toArray[off]? = some xs[off] := by simp [h2]
    rw [this, List.drop_eq_getElem_cons h2]
    rfl
theorem planL_ok (hT : TyOk P ty) {g : Nat → Option (List Srt)} {n : Nat}
    (ih : ∀ t sh, g t = some sh → (tyLook t ty).ok = true → ∀ (xs ys : List Value) (W : World), xs.map srtV = sh.map some → ys.map srtV = sh.map some → (Op.equalIn n t (mkV ty t xs) (mkV ty t ys)).run P W = .ok (allV xs ys) W) :
    ∀ (fs : List Field) (off : Nat) (sh : List Srt), planL g ty off fs = some sh → ∀ (xs ys : List Value) (W : World), off ≤ xs.length → off ≤ ys.length → (xs.drop off).map srtV = sh.map some → (ys.drop off).map srtV = sh.map some →
      (Op.eqFields n xs.toArray ys.toArray fs).run P W = .ok (allV (xs.drop off) (ys.drop off)) W
  | [], off, sh, h, xs, ys, W, _, _, hx, hy => by
    obtain rfl : [] = sh := by simpa [planL] using h
    have hx : xs.drop off = [] := by simpa using hx
    have hy : ys.drop off = [] := by simpa using hy
    rw [hx, hy]; rfl
  | f :: r, off, sh, h, xs, ys, W, hox, hoy, hx, hy => by
    simp only [planL] at h
    split at h
    · rename_i hf
      obtain ⟨hn, ho, hk⟩ := hf
      split at h
      · rename_i s q hs hq
        split at h
        · rename_i hl
          obtain rfl : s ++ q = sh := by simpa using h
          have lx := srt_len hx
          have ly := srt_len hy
          rw [List.length_drop, List.length_append] at lx ly
          have ex : xs.drop off = (xs.drop off).take s.length ++ xs.drop (off + s.length) := by rw [← List.drop_drop, List.take_append_drop]
          have ey : ys.drop off = (ys.drop off).take s.length ++ ys.drop (off + s.length) := by rw [← List.drop_drop, List.take_append_drop]
          have lxt : ((xs.drop off).take s.length).length = s.length := by rw [List.length_take, List.length_drop]; omega
          have lyt : ((ys.drop off).take s.length).length = s.length := by rw [List.length_take, List.length_drop]; omega
          rw [ex, List.map_append, List.map_append] at hx
          rw [ey, List.map_append, List.map_append] at hy
          obtain ⟨hx1, hx2⟩ := List.append_inj hx (by simp only [List.length_map]; exact lxt)
          obtain ⟨hy1, hy2⟩ := List.append_inj hy (by simp only [List.length_map]; exact lyt)
          have rc := planL_ok hT ih r (off + (tyLook f.type ty).size) q hq xs ys
          rw [← hl] at rc
          have one := ih f.type s hs hk _ _ W hx1 hy1
          rw [ex, ey, allV_app (by rw [lxt, lyt])]
          simp only [Op.eqFields]
          rw [if_pos hn, Sem.run_bind, ho, part_ok hT hk xs off (by omega) W]
          simp only [Result.andThen_ok]
          rw [Sem.run_bind, part_ok hT hk ys off (by omega) W]
          simp only [Result.andThen_ok]
          rw [Sem.run_bind, ← hl, one]
          simp only [Result.andThen_ok]
          cases hb : allV ((xs.drop off).take s.length) ((ys.drop off).take s.length) with
          | false => simp
          | true => simpa using rc W (by omega) (by omega) hx2 hy2
        · cases h
      · cases h
    · cases h
theorem eqPlan_ok (hT : TyOk P ty) : ∀ (d e t : Nat) (sh : List Srt), eqPlan P ty d t = some sh → (tyLook t ty).ok = true → ∀ (xs ys : List Value) (W : World), xs.map srtV = sh.map some → ys.map srtV = sh.map some →
    (Op.equalIn (e + d) t (mkV ty t xs) (mkV ty t ys)).run P W = .ok (allV xs ys) W
  | 0, _, _, _, h, _, _, _, _, _, _ => by cases h
  | d + 1, e, t, sh, h, hk, xs, ys, W, hx, hy => by
    simp only [eqPlan] at h
    split at h
    · rename_i fs hu
      split at h
      · rename_i hp
        have hg : (tyLook t ty).agg = true := agg_of hT hk hu
        have hS : P.underlying t = some (.struct (P.fieldsOf t)) := by
          rw [hu]; simp [Program.fieldsOf, hu]
        have hF : P.fieldsOf t = fs := by simp [Program.fieldsOf, hu]
        unfold mkV
        rw [if_pos hg, if_pos hg, ← Nat.add_assoc, run_equalIn_agg W _ _ _ _ hS hp, hF]
        exact planL_ok hT (fun t sh h hk xs ys W hx hy => eqPlan_ok hT d e t sh h hk xs ys W hx hy) fs.toList 0 sh h xs ys W (Nat.zero_le _) (Nat.zero_le _) hx hy
      · cases h
    · rename_i hu
      have hg : (tyLook t ty).agg = false := agg_of hT hk hu
      obtain rfl : [Srt.boo] = sh := by simpa using h
      obtain ⟨x, rfl, hx1⟩ := srt_one hx
      obtain ⟨y, rfl, hy1⟩ := srt_one hy
      cases x <;> simp only [srtV, Option.some.injEq, reduceCtorEq] at hx1
      cases y <;> simp only [srtV, Option.some.injEq, reduceCtorEq] at hy1
      unfold mkV
      rw [if_neg (by rw [hg]; decide), if_neg (by rw [hg]; decide)]
      rw [← Nat.add_assoc]
      refine (run_equalIn_bool' W _ _ _ _ hu).trans ?_
      simp [allV, eqV]
    · rename_i hu
      have hg : (tyLook t ty).agg = false := agg_of hT hk hu
      obtain rfl : [Srt.str] = sh := by simpa using h
      obtain ⟨x, rfl, hx1⟩ := srt_one hx
      obtain ⟨y, rfl, hy1⟩ := srt_one hy
      cases x <;> simp only [srtV, Option.some.injEq, reduceCtorEq] at hx1
      cases y <;> simp only [srtV, Option.some.injEq, reduceCtorEq] at hy1
      unfold mkV
      rw [if_neg (by rw [hg]; decide), if_neg (by rw [hg]; decide)]
      rw [← Nat.add_assoc]
      refine (run_equalIn_string W _ _ _ _ hu).trans ?_
      simp [allV, eqV]
    · rename_i k hu
      have hg : (tyLook t ty).agg = false := agg_of hT hk hu
      obtain rfl : [Srt.int k] = sh := by simpa using h
      obtain ⟨x, rfl, hx1⟩ := srt_one hx
      obtain ⟨y, rfl, hy1⟩ := srt_one hy
      cases x <;> simp only [srtV, Option.some.injEq, Srt.int.injEq, reduceCtorEq] at hx1
      cases y <;> simp only [srtV, Option.some.injEq, Srt.int.injEq, reduceCtorEq] at hy1
      subst hx1 hy1
      unfold mkV
      rw [if_neg (by rw [hg]; decide), if_neg (by rw [hg]; decide)]
      rw [← Nat.add_assoc]
      refine (run_equalIn_int W _ _ _ _ _ _ hu).trans ?_
      simp [allV, eqV]
    · cases h
theorem EqOk.plan (hT : TyOk P ty) {T : Nat} {sh : List Srt} (h : eqPlan P ty 8 T = some sh) (hk : (tyLook T ty).ok = true) (ha : (tyLook T ty).agg = true) (hg : P.eqGuardType P.depth T = false) : EqOk P T sh := by
  intro xs ys x y W hx hy
  have key := eqPlan_ok hT 8 9992 T sh h hk xs ys W hx hy
  unfold mkV at key
  rw [if_pos ha, if_pos ha] at key
  refine ⟨run_eqGuard_agg W _ _ _ _ _ _ hg, run_eqGuard_agg W _ _ _ _ _ _ hg, ?_, ?_⟩
  · rw [run_eql_struct]
    rw [show (10000 : Nat) = 9992 + 8 from rfl, key]; rfl
  · rw [run_neq_struct]
    rw [show (10000 : Nat) = 9992 + 8 from rfl, key]; rfl
end
theorem eqDiag : EqOk Try.prog 47 [.int .i64, .int .i64, .int .i64] := EqOk.plan tyOk (by kernel_rfl) (by kernel_rfl) (by kernel_rfl) (by kernel_rfl)
end Go.Proofs.Ytblafdmmebiagaa
