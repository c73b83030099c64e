/- Parts of the proof; conditions as told. -/
import Derived.Test.YtlnojpllgclgfaaGreatQF12
import Derived.Test.YtlnojpllgclgfaaGreatQF11
import Derived.Test.YtlnojpllgclgfaaGreatQF02
import Derived.Test.YtlnojpllgclgfaaGreatQF03
import Derived.Test.YtlnojpllgclgfaaGreatQF04
import Derived.Defers
import Derived.Recover
import Derived.WalkLawsBesides
import Derived.Laws.Pointers
import Derived.Test.YtlnojpllgclgfaaGreatQF10
set_option linter.unusedSimpArgs false
set_option linter.unusedVariables false
namespace Go.Proofs.YtlnojpllgclgfaaGreat
open Go.RowKit Go.Lib
structure Evr where
  do_ : Int
  kind : Int
  b : Option (List UInt8)
  deriving Inhabited
def Evr.ev (x : Evr) : Ev := ⟨x.do_, x.kind, x.b.getD []⟩
structure RSt where
  op : List (List Int)
  ev : List Evr
  wr : List Dg
  deriving Inhabited
def rWrong (t : Txt) (c f u : Int) (s : RSt) : RSt := ⟨s.op, s.ev, s.wr ++ [⟨offA t f, offA t u, c⟩]⟩
def rLeaf (t : Txt) (b : List UInt8) (kind f u : Int) (s : RSt) : RSt := ⟨s.op, s.ev ++ [⟨2, kind, some (sliceF t b f u)⟩], s.wr⟩
def rLack (t : Txt) (a : Int) (s : RSt) : RSt := ⟨s.op.take (s.op.length - 1), s.ev ++ [⟨2, 22, none⟩, ⟨3, 0, none⟩], s.wr ++ [⟨offA t a, offA t a, 4⟩]⟩
def rFind (op : List (List Int)) (nm : List Int) : Nat → Int
  | 0 => -1
  | k + 1 => if op[k]?.getD [] = nm then k else rFind op nm k
def rLackGo (t : Txt) (f : Int) (k : Nat) : Nat → RSt → RSt
  | 0, s => s
  | n + 1, s => if k < s.op.length then rLackGo t f k n (rLack t f s) else s
def rStart (t : Txt) (b : List UInt8) (kind f u : Int) (s : RSt) : RSt :=
  if 64 ≤ s.op.length then rLeaf t b kind f u (rWrong t 5 f u s)
  else rLeaf t b kind f u ⟨s.op ++ [nameF' t f u], s.ev ++ [⟨1, 0, none⟩], s.wr⟩
def rEnd (t : Txt) (b : List UInt8) (kind f u : Int) (s : RSt) : RSt :=
  if rFind s.op (nameF' t f u) s.op.length < 0 then rLeaf t b kind f u (rWrong t 3 f u s)
  else
    let s1 := rLeaf t b kind f u (rLackGo t f ((rFind s.op (nameF' t f u) s.op.length).toNat + 1) (s.op.length + 1) s)
    ⟨s1.op.take (rFind s.op (nameF' t f u) s.op.length).toNat, s1.ev ++ [⟨3, 0, none⟩], s1.wr⟩
def rToken (t : Txt) (b : List UInt8) (kind f u : Int) (wh : Bool) (s : RSt) : RSt :=
  let s1 := if wh = false then rWrong t 1 f u s else if (kind = 8 ∨ kind = 9 ∨ kind = 10) ∧ (readF t.r f u).right = false then rWrong t 2 f u s else s
  if wh = true ∧ kind = 8 ∧ 0 < (nameF' t f u).length then rStart t b kind f u s1
  else if wh = true ∧ kind = 10 then rEnd t b kind f u s1
  else rLeaf t b kind f u s1
def rTok (t : Txt) (b : List UInt8) (s : RSt) (x : Tok) : RSt := rToken t b x.kind x.from_ x.to x.whole s
theorem spF_old {l : List Node} (h : Wf l) (x : Node) : ∀ (f : Nat) (n : Int) (top : Bool), 0 ≤ n → n < l.length → spF (l ++ [x]) f n top = spF l f n top
  | 0, _, _, _, _ => rfl
  | f + 1, n, top, h0, h1 => by
    simp only [spF, nodeAt_old h0 h1]
    have e1 : pr (l ++ [x]) n = pr l n := pr_old h x h0 h1
    have e2 : (nodeAt l n).kids.flatMap (fun k => spF (l ++ [x]) f k false) = (nodeAt l n).kids.flatMap (fun k => spF l f k false) := by
      refine congrArg List.flatten (List.map_congr_left fun k hk => ?_)
      have := h n h0 h1 k hk
      exact spF_old h x f k false this.1 (by omega)
    rw [e1, e2]
theorem sp_old {l : List Node} (h : Wf l) (x : Node) {n : Int} (top : Bool) (h0 : 0 ≤ n) (h1 : n < l.length) : spV (l ++ [x]) n top = spV l n top := spF_old h x _ n top h0 h1
def spL (l : List Node) (ks : List Int) : List Ev := ks.flatMap fun k => spV l k false
theorem spL_old {l : List Node} (h : Wf l) (x : Node) {ks : List Int} (hk : InR l ks) : spL (l ++ [x]) ks = spL l ks :=
  congrArg List.flatten (List.map_congr_left fun k hk' => sp_old h x false (hk k hk').1 (hk k hk').2)
theorem spL_app (l : List Node) (a b : List Int) : spL l (a ++ b) = spL l a ++ spL l b := by simp [spL]
theorem spL_one (l : List Node) (k : Int) : spL l [k] = spV l k false := by simp [spL]
theorem sp_leaf {l : List Node} (h : Ar l) {kind : Int} (hk : kind ≠ 21) (bs : List UInt8) : spV (l ++ [leafF kind bs]) l.length false = [⟨2, kind, bs⟩] := by
  have ha := ar_leaf h kind bs
  rw [spN_eq ha.1.wf (by omega) (by simp only [List.length_append, List.length_singleton]; omega), nodeAt_new, if_pos ⟨hk, rfl⟩, ha.2]; rfl
theorem sp_branch {l : List Node} (h : Ar l) {ks : List Int} (hk : InR l ks) : spV (l ++ [branchF l 21 ks]) l.length false = ⟨1, 0, []⟩ :: (spL l ks ++ [⟨3, 0, []⟩]) := by
  have ha := ar_branch h 21 hk
  rw [spN_eq ha.1.wf (by omega) (by simp only [List.length_append, List.length_singleton]; omega), nodeAt_new, if_neg (fun e => e.1 rfl), if_neg (by decide), if_neg (by decide)]
  show [_] ++ spL (l ++ [branchF l 21 ks]) ks ++ _ = _
  rw [spL_old h.wf _ hk]; rfl
def evO (l : List Node) (x : Opn) : List Ev := ⟨1, 0, []⟩ :: spL l x.kids
def evS (l : List Node) (s : List Opn) : List Ev := s.flatMap (evO l)
theorem evS_app (l : List Node) (s : List Opn) (x : Opn) : evS l (s ++ [x]) = evS l s ++ evO l x := by simp [evS]
theorem evS_old {l : List Node} (h : Wf l) (x : Node) {s : List Opn} (hs : ∀ y ∈ s, InR l y.kids) : evS (l ++ [x]) s = evS l s :=
  congrArg List.flatten (List.map_congr_left fun y hy => by unfold evO; rw [spL_old h x (hs y hy)])
structure Rel (m : Mk) (s : RSt) : Prop where
  op : s.op = (m.s.drop 1).map Opn.name
  wr : s.wr = m.d
  ev : (⟨1, 0, []⟩ : Ev) :: s.ev.map Evr.ev = evS m.n m.s
theorem drop1_app {s : List Opn} (hs : s ≠ []) (x : Opn) : (s ++ [x]).drop 1 = s.drop 1 ++ [x] := by
  cases s with
  | nil => exact absurd rfl hs
  | cons a r => rfl
section
variable {m : Mk} {s : RSt} {X : List UInt8} {B D : Nat}
theorem Rel.len (h : Rel m s) : s.op.length = m.s.length - 1 := by rw [h.op]; simp
theorem Rel.wrong (h : Rel m s) (t : Txt) (c f u : Int) : Rel (wrongF t c f u m) (rWrong t c f u s) :=
  ⟨h.op, by show s.wr ++ _ = m.d ++ _; rw [h.wr], h.ev⟩
theorem Rel.leaf (hm : MkInv m X B D) (h : Rel m s) {kind : Int} (hk : kind ≠ 21) (bs : List UInt8) (q : Option (List UInt8)) (hq : q.getD [] = bs) : Rel (kidF m.n.length (addF (leafF kind bs) m)) ⟨s.op, s.ev ++ [⟨2, kind, q⟩], s.wr⟩ := by
  obtain ⟨s0, hs0⟩ := top_split hm.s1
  generalize topF m.s = y at hs0
  have hr := hm.rng
  have ho := h.op
  have he := h.ev
  rw [hs0] at hr ho he
  have hr0 : ∀ z ∈ s0, InR m.n z.kids := fun z hz => hr z (List.mem_append_left _ hz)
  have hry : InR m.n y.kids := hr y (by simp)
  refine ⟨?_, h.wr, ?_⟩
  · show s.op = ((kidS m.n.length m.s).drop 1).map Opn.name
    rw [hs0, kid_app, ho]
    cases s0 <;> simp
  · show (⟨1, 0, []⟩ : Ev) :: (s.ev ++ [(⟨2, kind, q⟩ : Evr)]).map Evr.ev = evS (m.n ++ [leafF kind bs]) (kidS m.n.length m.s)
    rw [evS_app] at he
    rw [hs0, kid_app, evS_app, evS_old hm.ar.wf _ hr0]
    unfold evO
    rw [spL_app, spL_one, spL_old hm.ar.wf _ hry, sp_leaf hm.ar hk, List.map_append, ← List.cons_append, he]
    unfold evO Evr.ev
    rw [← hq]
    simp
theorem Rel.push (hm : MkInv m X B D) (h : Rel m s) (bs : List UInt8) (nm : List Int) (k : Int) (hk : k ≠ 21) : Rel (kidF m.n.length (addF (leafF k bs) { m with s := m.s ++ [⟨nm, []⟩] })) ⟨s.op ++ [nm], (s.ev ++ [⟨1, 0, none⟩]) ++ [⟨2, k, some bs⟩], s.wr⟩ := by
  have hne : m.s ≠ [] := fun e => by have := hm.s1; rw [e] at this; simp at this
  refine ⟨?_, h.wr, ?_⟩
  · show s.op ++ [nm] = ((kidS m.n.length (m.s ++ [⟨nm, []⟩])).drop 1).map Opn.name
    rw [kid_app, drop1_app hne, List.map_append, ← h.op]; rfl
  · show (⟨1, 0, []⟩ : Ev) :: ((s.ev ++ [(⟨1, 0, none⟩ : Evr)]) ++ [(⟨2, k, some bs⟩ : Evr)]).map Evr.ev = evS (m.n ++ [leafF k bs]) (kidS m.n.length (m.s ++ [⟨nm, []⟩]))
    rw [kid_app, evS_app, evS_old hm.ar.wf _ hm.rng, ← h.ev]
    unfold evO
    rw [List.nil_append, spL_one, sp_leaf hm.ar hk]
    simp [Evr.ev]
theorem take_less (s0 : List Opn) (y x : Opn) (z : List Int) : (((s0 ++ [y] ++ [x]).drop 1).map Opn.name).take ((((s0 ++ [y] ++ [x]).drop 1).map Opn.name).length - 1) = ((s0 ++ [(⟨y.name, z⟩ : Opn)]).drop 1).map Opn.name := by
  cases s0 with
  | nil => rfl
  | cons a r =>
    have e : ((a :: r ++ [y] ++ [x]).drop 1).map Opn.name = (r.map Opn.name ++ [y.name]) ++ [x.name] := by simp
    rw [e, List.length_append, List.length_singleton, Nat.add_sub_cancel, List.take_left]
    simp
theorem Rel.shut (hm : MkInv m X B D) (h : Rel m s) (hs : 2 ≤ m.s.length) {kind : Int} (hk : kind ≠ 21) (bs : List UInt8) (q : Option (List UInt8)) (hq : q.getD [] = bs) :
    Rel (shutF m.n.length (addF (leafF kind bs) m)) ⟨s.op.take (s.op.length - 1), s.ev ++ [⟨2, kind, q⟩, ⟨3, 0, none⟩], s.wr⟩ := by
  obtain ⟨s0, y, hs1⟩ := two_split hs
  generalize topF m.s = x at hs1
  obtain ⟨en, es⟩ := shut_eq hs1 kind bs
  obtain ⟨ha1, hp1⟩ := ar_leaf hm.ar kind bs
  have hr := hm.rng
  have ho := h.op
  have he := h.ev
  rw [hs1] at hr ho he
  have hr0 : ∀ z ∈ s0, InR m.n z.kids := fun z hz => hr z (List.mem_append_left _ (List.mem_append_left _ hz))
  have hry : InR m.n y.kids := hr y (List.mem_append_left _ (by simp))
  have hrx : InR m.n x.kids := hr x (by simp)
  have hks : InR (m.n ++ [leafF kind bs]) (x.kids ++ [(m.n.length : Int)]) := fun k hk => by
    rcases List.mem_append.1 hk with hk | hk
    · exact hrx.more _ k hk
    · obtain rfl : k = (m.n.length : Int) := by simpa using hk
      simp; omega
  have hsp := sp_branch ha1 hks
  have e1 : spL (m.n ++ [leafF kind bs]) (x.kids ++ [(m.n.length : Int)]) = spL m.n x.kids ++ [⟨2, kind, bs⟩] := by
    rw [spL_app, spL_one, spL_old hm.ar.wf _ hrx, sp_leaf hm.ar hk]
  rw [e1] at hsp
  obtain ⟨l1, hl⟩ : ∃ l1, l1 = m.n ++ [leafF kind bs] := ⟨_, rfl⟩
  rw [← hl] at hsp en es ha1
  generalize branchF l1 21 (x.kids ++ [(m.n.length : Int)]) = z at hsp en
  have up0 : evS (l1 ++ [z]) s0 = evS m.n s0 := by
    rw [evS_old ha1.wf z (fun q hq => by rw [hl]; exact (hr0 q hq).more _), hl, evS_old hm.ar.wf _ hr0]
  have upy : spL (l1 ++ [z]) y.kids = spL m.n y.kids := by
    rw [spL_old ha1.wf z (by rw [hl]; exact hry.more _), hl, spL_old hm.ar.wf _ hry]
  refine ⟨?_, h.wr, ?_⟩
  · show s.op.take (s.op.length - 1) = _
    rw [es, ho, take_less]
  · show (⟨1, 0, []⟩ : Ev) :: (s.ev ++ [(⟨2, kind, q⟩ : Evr), ⟨3, 0, none⟩]).map Evr.ev = _
    rw [evS_app, evS_app] at he
    rw [en, es, evS_app, up0, List.map_append, ← List.cons_append, he]
    unfold evO
    rw [spL_app, spL_one, upy, hsp, ← hq]
    simp [Evr.ev]
theorem Rel.miss (hm : MkInv m X B D) (h : Rel m s) (hs : 2 ≤ m.s.length) (t : Txt) (a : Int) : Rel (missF t a m) (rLack t a s) :=
  Rel.shut (inv_wrong hm t 4 a a) (h.wrong t 4 a a) hs (kind := 22) (by decide) [] none rfl
end
theorem Rel.missGo (t : Txt) (f : Int) (k : Nat) {X : List UInt8} {B D : Nat} : ∀ (n : Nat) (m : Mk) (s : RSt), MkInv m X B D → Rel m s → Rel (Go.Proofs.YtlnojpllgclgfaaGreat.missGo t f k n m) (rLackGo t f k n s)
  | 0, m, s, _, h => h
  | n + 1, m, s, hm, h => by
    show Rel (if _ then _ else _) (if _ then _ else _)
    rw [h.len]
    split
    · exact Rel.missGo t f k n _ _ (inv_miss hm (by omega) t f).1 (h.miss hm (by omega) t f)
    · exact h
theorem find_eq (s : List Opn) (nm : List Int) : ∀ k, ((opnFind s nm k : Nat) : Int) = rFind ((s.drop 1).map Opn.name) nm k + 1
  | 0 => rfl
  | k + 1 => by
    unfold opnFind rFind
    have e : ((s.drop 1).map Opn.name)[k]?.getD [] = (s[k + 1]?.getD ⟨[], []⟩).name := by
      rw [List.getElem?_map, List.getElem?_drop, Nat.add_comm 1 k]
      cases s[k + 1]? <;> rfl
    rw [e]
    split
    · rfl
    · exact find_eq s nm k
section
variable {m : Mk} {s : RSt} {X : List UInt8} {B D : Nat} {t : Txt} {b : List UInt8} {f u : Int}
theorem Rel.lk (hm : MkInv m X B D) (h : Rel m s) {kind : Int} (hk : kind ≠ 21) : Rel (lkF t b kind f u m) (rLeaf t b kind f u s) :=
  Rel.leaf hm h hk (sliceF t b f u) (some (sliceF t b f u)) rfl
theorem Rel.start (hm : MkInv m X B D) (h : Rel m s) {kind : Int} (hk : kind ≠ 21) : Rel (startF' t b kind f u m) (rStart t b kind f u s) := by
  have h1 := hm.s1
  unfold startF' rStart
  rw [h.len]
  by_cases hc : 64 < m.s.length
  · rw [if_pos hc, if_pos (by omega)]
    exact Rel.lk (inv_wrong hm t 5 f u) (h.wrong t 5 f u) hk
  · rw [if_neg hc, if_neg (by omega)]
    exact Rel.push hm h (sliceF t b f u) (nameF' t f u) kind hk
theorem Rel.end_ (hm : MkInv m X B D) (h : Rel m s) {kind : Int} (hk : kind ≠ 21) : Rel (endF' t b kind f u m) (rEnd t b kind f u s) := by
  have h1 := hm.s1
  have hf := find_eq m.s (nameF' t f u) (m.s.length - 1)
  have hle := opnFind_le m.s (nameF' t f u) (m.s.length - 1)
  rw [← h.op] at hf
  unfold endF' rEnd
  rw [h.len]
  simp only
  generalize hK : opnFind m.s (nameF' t f u) (m.s.length - 1) = K at hf hle ⊢
  generalize hR : rFind s.op (nameF' t f u) (m.s.length - 1) = r at hf ⊢
  by_cases hc : K = 0
  · rw [if_pos hc, if_pos (by omega)]
    exact Rel.lk (inv_wrong hm t 3 f u) (h.wrong t 3 f u) hk
  · rw [if_neg hc, if_neg (by omega)]
    have hr : r.toNat + 1 = K := by omega
    rw [show m.s.length - 1 + 1 = m.s.length by omega, hr]
    obtain ⟨h3, h4⟩ := inv_missGo t f K m.s.length m hm (by omega) (by omega)
    have h5 := Rel.missGo t f K m.s.length m s hm h
    have h6 := h5.len
    have h7 := Rel.shut h3 h5 (by omega) hk (sliceF t b f u) (some (sliceF t b f u)) rfl
    have e : r.toNat = (rLackGo t f K m.s.length s).op.length - 1 := by omega
    show Rel _ ⟨(rLackGo t f K m.s.length s).op.take r.toNat, ((rLackGo t f K m.s.length s).ev ++ [_]) ++ [_], _⟩
    rw [e, List.append_assoc]
    exact h7
theorem Rel.token (hm : MkInv m X B D) (h : Rel m s) {kind : Int} (hk : kind ≠ 21) (wh : Bool) : Rel (tokenF t b kind f u wh m) (rToken t b kind f u wh s) := by
  unfold tokenF rToken
  simp only
  generalize hm1 : (if wh = false then wrongF t 1 f u m else if (kind = 8 ∨ kind = 9 ∨ kind = 10) ∧ (readF t.r f u).right = false then wrongF t 2 f u m else m) = m1
  generalize hs1 : (if wh = false then rWrong t 1 f u s else if (kind = 8 ∨ kind = 9 ∨ kind = 10) ∧ (readF t.r f u).right = false then rWrong t 2 f u s else s) = s1
  have h3 : ∃ D', MkInv m1 X B D' ∧ Rel m1 s1 := by
    rw [← hm1, ← hs1]
    split
    · exact ⟨_, inv_wrong hm t 1 f u, h.wrong t 1 f u⟩
    · split
      · exact ⟨_, inv_wrong hm t 2 f u, h.wrong t 2 f u⟩
      · exact ⟨_, hm, h⟩
  obtain ⟨D', h3, h4⟩ := h3
  split
  · exact Rel.start h3 h4 hk
  · split
    · exact Rel.end_ h3 h4 hk
    · exact Rel.lk h3 h4 hk
end
theorem Rel.toks {t : Txt} {b : List UInt8} (ok : TxtOk t b) (hr : t.r.length ≤ 1000000) : ∀ (n k : Nat) (m : Mk) (s : RSt) (B D : Nat), t.r.length - k ≤ n → k ≤ t.r.length → MkI m (upTo t b k) B D → Rel m s →
    Rel ((toksGo t.r k).foldl (tokM t b) m) ((toksGo t.r k).foldl (rTok t b) s)
  | 0, k, m, s, B, D, h, hk, hi, hc => by
    rw [toksGo_nil (by omega)]; exact hc
  | n + 1, k, m, s, B, D, h, hk, hi, hc => by
    by_cases hlt : k < t.r.length
    · obtain ⟨h1, h2, h3, h4⟩ := tok_in t.r hlt
      rw [toksGo_cons hlt, List.foldl_cons, List.foldl_cons]
      have := hi.token t b hr (tokAt t.r k).kind (tokAt t.r k).from_ (tokAt t.r k).to (tokAt t.r k).whole
      rw [h1, h2, upTo_slice ok (by omega) (by omega) (by omega)] at this
      have hkd : (tokAt t.r k).kind ≠ 21 := by
        show (((nextTF t.r k).1 : Nat) : Int) ≠ 21
        have := nextTF_kind t.r k
        omega
      have h5 : Rel (tokenF t b (tokAt t.r k).kind k ((nextTF t.r k).2.1 : Nat) (tokAt t.r k).whole m) (rTok t b s (tokAt t.r k)) := Rel.token hi.i hc hkd _
      exact Rel.toks ok hr n (nextTF t.r k).2.1 _ _ (B + 3) (D + 3) (by omega) h4 this h5
    · rw [toksGo_nil hlt]; exact hc
end Go.Proofs.YtlnojpllgclgfaaGreat
namespace Go.Proofs.YtlnojpllgclgfaaGreat
open Go.RowKit Go.Lib
end Go.Proofs.YtlnojpllgclgfaaGreat
namespace Go.Proofs.YtlnojpllgclgfaaGreat
open Go.RowKit Go.Lib
end Go.Proofs.YtlnojpllgclgfaaGreat
namespace Go.Proofs.YtlnojpllgclgfaaGreat
open Go.RowKit Go.Lib
end Go.Proofs.YtlnojpllgclgfaaGreat
namespace Go.Proofs.YtlnojpllgclgfaaGreat
open Go.RowKit Go.Lib
end Go.Proofs.YtlnojpllgclgfaaGreat
namespace Go.Proofs.YtlnojpllgclgfaaGreat
open Go.RowKit Go.Lib
end Go.Proofs.YtlnojpllgclgfaaGreat
namespace Go.Proofs.YtlnojpllgclgfaaGreat
open Go.RowKit Go.Lib
end Go.Proofs.YtlnojpllgclgfaaGreat
namespace Go.Proofs.YtlnojpllgclgfaaGreat
open Go.RowKit Go.Lib
def Un (l : List Int) : Prop := ∀ x ∈ l, -1 ≤ x ∧ x ≤ 1114111
theorem Un.i32 {l : List Int} (h : Un l) : I32 l := fun x hx => by have := h x hx; omega
theorem Un.at_ {l : List Int} (h : Un l) (i : Int) (h0 : 0 ≤ i) (h1 : i < l.length) : -1 ≤ l[i.toNat]?.getD 0 ∧ l[i.toNat]?.getD 0 ≤ 1114111 := by
  rw [List.getElem?_eq_getElem (by omega)]
  exact h _ (List.getElem_mem _)
end Go.Proofs.YtlnojpllgclgfaaGreat
namespace Go.Proofs.YtlnojpllgclgfaaGreat
open Go.RowKit Go.Lib
end Go.Proofs.YtlnojpllgclgfaaGreat
namespace Go.Proofs.YtlnojpllgclgfaaGreat
open Go.RowKit Go.Lib
end Go.Proofs.YtlnojpllgclgfaaGreat
namespace Go.Proofs.YtlnojpllgclgfaaGreat
open Go.RowKit Go.Lib
def isRunes (l : List AV) : Bool := l.all fun x => match x with
  | .val (.int .i32 _) => true
  | _ => false
theorem isRunes_ok : ∀ {l : List AV}, isRunes l = true → l = runesA (l.map std.int)
  | [], _ => rfl
  | x :: r, h => by
    unfold isRunes at h
    rw [List.all_cons, Bool.and_eq_true] at h
    have ih := isRunes_ok (l := r) h.2
    have hx : x = .val (.int .i32 (std.int x)) := by
      have h1 := h.1
      split at h1
      · rfl
      · cases h1
    show x :: r = runeA (std.int x) :: runesA (r.map std.int)
    rw [← ih, runeA, ← hx]
def rwA (x : AV) : List Int := (std.lst x).map std.int
def isRows : List AV → Bool
  | [] => true
  | x :: r => (match x with
    | .slc 1 l => isRunes l
    | .val (.slice none 0 0) => true
    | _ => false) && isRows r
theorem isRows_at : ∀ {l : List AV}, isRows l = true → flatA l = l ∧ ∀ x ∈ l, x = .slc 1 (runesA (rwA x)) ∨ (x = .val (.slice none 0 0) ∧ rwA x = [])
  | [], _ => ⟨rfl, fun x h => by cases h⟩
  | x :: r, h => by
    unfold isRows at h
    rw [Bool.and_eq_true] at h
    obtain ⟨h1, h2⟩ := h
    obtain ⟨e1, e2⟩ := isRows_at h2
    split at h1
    · rename_i l
      refine ⟨by rw [flatA, List.flatMap_cons]; show _ :: flatA r = _; rw [e1], fun y hy => ?_⟩
      rcases List.mem_cons.1 hy with rfl | hy
      · left
        show AV.slc 1 l = .slc 1 (runesA (l.map std.int))
        rw [← isRunes_ok h1]
      · exact e2 y hy
    · refine ⟨by rw [flatA, List.flatMap_cons]; show _ :: flatA r = _; rw [e1], fun y hy => ?_⟩
      rcases List.mem_cons.1 hy with rfl | hy
      · exact .inr ⟨rfl, rfl⟩
      · exact e2 y hy
    · cases h1
theorem Concat_b (xs : List AV) (hx : isRows xs = true) (hs : sumLen (xs.map rwA) ≤ 1000000000) : BCall Tryz.prog 54 [.slc 1 xs] [] (.slc 1 (runesA (xs.map rwA).flatten)) [] := by
  refine BCall.hand (enters_of Tryz.func54 (by kernel_rfl) rfl) fun w g vs M hL => ?_
  obtain ⟨v1, vs1, rfl, h1, hL⟩ := argsCons hL
  obtain rfl := argsNil hL
  obtain ⟨A, c, ys, rfl, hr, ha⟩ := argRd h1 M
  obtain ⟨ef, ex⟩ := isRows_at hx
  rw [ef] at ha
  have hR : RowsV w A _ c (xs.map rwA) ys := ⟨hr, by rw [ha.1, List.length_map], fun i v l e1 e2 => by
    obtain ⟨x, e3, rfl⟩ := by rw [List.getElem?_map] at e2; exact Option.map_eq_some_iff.1 e2
    have hv := ha.2 i v x e1 e3
    rcases ex x (List.mem_of_getElem? e3) with h | ⟨rfl, h⟩
    · generalize rwA x = l at h ⊢
      subst h
      obtain ⟨A2, c2, ys2, rfl, hr2, ha2⟩ := argRd (show ARel1 w g [] v (.slc 1 (runesA l)) from PRel.to0 (ob := []) hv) M
      have e : runesA l = (rc l).map .val := by simp [runesA, rc, runeA]
      rw [e, flatVals] at ha2
      obtain rfl := alikeVals ha2
      exact ⟨A2, _, c2, rfl, hr2⟩
    · rw [h]
      obtain rfl : v = .slice none 0 0 := by cases hv; rfl
      exact ⟨none, 0, 0, rfl, ⟨rfl, Nat.le_refl 0, Nat.zero_le _, fun _ => rfl, fun h => absurd h (Nat.lt_irrefl 0)⟩⟩⟩
  refine (Concat_any A _ c (xs.map rwA) ys w hR hs).mono fun e w' ⟨v, h, ⟨n', ho⟩, hbel⟩ => ⟨v, h, hbel, ?_⟩
  obtain ⟨fl, hfl⟩ : ∃ fl, fl = (xs.map rwA).flatten := ⟨_, rfl⟩
  rw [← hfl] at ho ⊢
  have hn : n' = (runesA fl).length := by
    have := ho.1
    rw [runes_len]; simpa [rc] using this.symm
  refine own_slc (A' := (g.imm w w').A) ho (by decide) ?_ hn (fun x hx => by obtain ⟨y, _, rfl⟩ := List.mem_map.1 hx; rfl) (fun b o h1 h2 => .inr ⟨h1, h2⟩)
  have e : ∀ l : List Int, runesA l = (rc l).map .val := fun l => by simp [runesA, rc, runeA]
  rw [e, flatVals]
  refine vals_alike fun u hu => ?_
  obtain ⟨x, _, rfl⟩ := List.mem_map.1 hu
  rfl
theorem All_b (l : List Int) (p : Int → Bool) (f : Nat) (ef : ∀ args w, (callFunc f args).run Tryz.prog w = .ok (.enter f args) w) (hp : ∀ w, PredOk Tryz.prog f #[] p w) :
    BCall Tryz.prog 30 [.slc 1 (runesA l), .val (.func (.func f) #[] #[])] [] (.val (.bool (l.all p))) [] := by
  refine BCall.hand (enters_of Tryz.func30 (by kernel_rfl) rfl) fun w g vs M hL => ?_
  obtain ⟨v1, vs1, rfl, h1, hL⟩ := argsCons hL
  obtain ⟨v3, vs3, rfl, h3, hL⟩ := argsCons hL
  obtain rfl := argsNil hL
  obtain ⟨A, c, rfl, hr⟩ := runes_rd h1 M
  obtain rfl := argVal h3
  exact (All_any _ A _ c l f #[] p w ef hr (hp w)).mono fun e w' ⟨h, hb⟩ => ⟨_, h, hb, PRel.val _ rfl⟩
theorem Contains_b (s : ByteArray) (c : UInt8) : BCall Tryz.prog 64 [.val (.string s), .val (.string ⟨#[c]⟩)] [] (.val (.bool (s.data.toList.contains c))) [] := by
  refine BCall.hand (enters_of Tryz.func64 (by kernel_rfl) rfl) fun w g vs M hL => ?_
  obtain ⟨v1, vs1, rfl, h1, hL⟩ := argsCons hL
  obtain ⟨v3, vs3, rfl, h3, hL⟩ := argsCons hL
  obtain rfl := argsNil hL
  obtain rfl := argVal h1
  obtain rfl := argVal h3
  exact (ContainsStr_any s c w).mono fun e w' ⟨h, hb⟩ => ⟨_, h, hb ▸ Below.refl _ _, PRel.val _ rfl⟩
def rPred (g : Nat) : Option (Int → Bool) := if g = 37 then some isSpace else if g = 61 then some isNameChar else if g = 74 then some notAmp else if g = 139 then some isDig else if g = 140 then some isHex else if g = 31 then some isChar else if g = 115 then some isPlain else none
theorem rPred_ok {g : Nat} {p : Int → Bool} (h : rPred g = some p) : (∀ args w, (callFunc g args).run Tryz.prog w = .ok (.enter g args) w) ∧ ∀ w, PredOk Tryz.prog g #[] p w := by
  unfold rPred at h
  split at h
  · rename_i e; subst e; cases h; exact ⟨enters_of Tryz.func37 (by kernel_rfl) rfl, Space_ok⟩
  split at h
  · rename_i e; subst e; cases h; exact ⟨eg_NameChar, NameChar_ok⟩
  split at h
  · rename_i e; subst e; cases h; exact ⟨enters_of Tryz.func74 (by kernel_rfl) rfl, NotAmp_ok⟩
  split at h
  · rename_i e; subst e; cases h; exact ⟨enters_of Tryz.func139 (by kernel_rfl) rfl, LDigit_ok⟩
  split at h
  · rename_i e; subst e; cases h; exact ⟨enters_of Tryz.func140 (by kernel_rfl) rfl, LHex_ok⟩
  split at h
  · rename_i e; subst e; cases h; exact ⟨eg_Char, Char_ok⟩
  split at h
  · rename_i e; subst e; cases h; exact ⟨enters_of Tryz.func115 (by kernel_rfl) rfl, LPlain_ok⟩
  cases h
theorem Run_e {l : List AV} {k : Int} {g : Nat} {p : Int → Bool} (hp : rPred g = some p) (hr : isRunes l = true) : BCall Tryz.prog 36 [.slc 1 l, .val (.int .i64 k), .val (.func (.func g) #[] #[])] [] (.val (.int .i64 (runF p (l.map std.int) k))) [] := by
  have := Run_b (l.map std.int) k p g (rPred_ok hp).1 (rPred_ok hp).2
  rw [← isRunes_ok hr] at this
  exact this
theorem All_e {l : List AV} {g : Nat} {p : Int → Bool} (hp : rPred g = some p) (hr : isRunes l = true) : BCall Tryz.prog 30 [.slc 1 l, .val (.func (.func g) #[] #[])] [] (.val (.bool ((l.map std.int).all p))) [] := by
  have := All_b (l.map std.int) p g (rPred_ok hp).1 (rPred_ok hp).2
  rw [← isRunes_ok hr] at this
  exact this
theorem text_e {l : List AV} (hp : (isRunes l && Nat.ble l.length 1000) = true) : BCall Tryz.prog 170 [.slc 1 l] [] (.val (.string (txF (l.map std.int)))) [] := by
  rw [Bool.and_eq_true] at hp
  have h2 := Nat.le_of_ble_eq_true hp.2
  have := dtext_b (l.map std.int) (by rw [List.length_map]; exact Nat.le_trans h2 (by decide))
  rw [← isRunes_ok hp.1] at this
  exact this
theorem Concat_e {l : List AV} (hp : (isRows l && Nat.ble (sumLen (l.map rwA)) 1000) = true) : BCall Tryz.prog 54 [.slc 1 l] [] (.slc 1 (runesA (l.map rwA).flatten)) [] := by
  rw [Bool.and_eq_true] at hp
  have h2 := Nat.le_of_ble_eq_true hp.2
  exact Concat_b l hp.1 (Nat.le_trans h2 (by decide))
theorem Lead_e {l : List AV} {k : Nat} (hp : (isRunes l && Nat.ble k 1000) = true) : BCall Tryz.prog 32 [.slc 1 l, .val (.int .i64 (.ofNat k))] [] (.val (.int .i64 (leadF (l.map std.int) k))) [] := by
  rw [Bool.and_eq_true] at hp
  have h2 := Nat.le_of_ble_eq_true hp.2
  have := Lead_b (l.map std.int) (.ofNat k) (Int.natCast_nonneg k) (Int.ofNat_le.2 (Nat.le_trans h2 (by decide)))
  rw [← isRunes_ok hp.1] at this
  exact this
theorem Starts_e {l : List AV} {k : Nat} {s : ByteArray} (hp : (isRunes l && (Nat.ble l.length 1000 && (Nat.ble k l.length && Nat.ble s.data.toList.length 1000))) = true) : BCall Tryz.prog 29 [.slc 1 l, .val (.int .i64 (.ofNat k)), .val (.string s)] [] (.val (.bool (startsF (l.map std.int) k s.data.toList))) [] := by
  simp only [Bool.and_eq_true] at hp
  obtain ⟨h1, h2, h3, h4⟩ := hp
  have h2 := Nat.le_of_ble_eq_true h2
  have h3 := Nat.le_of_ble_eq_true h3
  have h4 := Nat.le_of_ble_eq_true h4
  have := Starts_b (l.map std.int) (by rw [List.length_map]; exact Nat.le_trans h2 (by decide)) (.ofNat k) (Int.natCast_nonneg k) (by rw [List.length_map]; exact Int.ofNat_le.2 h3) s (by simp at h4; exact Nat.le_trans h4 (by decide))
  rw [← isRunes_ok h1] at this
  exact this
def b4 (f : Nat) (a : List AV) (o : List Ob) : Option (AV × List Ob) := match o with
  | [] =>
    if f = 36 then (match a with
      | [.slc 1 l, .val (.int .i64 k), .val (.func (.func g) ⟨[]⟩ ⟨[]⟩)] => match rPred g, isRunes l with
        | some p, true => some (.val (.int .i64 (runF p (l.map std.int) k)), [])
        | _, _ => none
      | _ => none)
    else if f = 30 then (match a with
      | [.slc 1 l, .val (.func (.func g) ⟨[]⟩ ⟨[]⟩)] => match rPred g, isRunes l with
        | some p, true => some (.val (.bool ((l.map std.int).all p)), [])
        | _, _ => none
      | _ => none)
    else if f = 64 then (match a with
      | [.val (.string s), .val (.string ⟨⟨[c]⟩⟩)] => some (.val (.bool (s.data.toList.contains c)), [])
      | _ => none)
    else if f = 170 then (match a with
      | [.slc 1 l] => match isRunes l && Nat.ble l.length 1000 with
        | true => some (.val (.string (txF (l.map std.int))), [])
        | false => none
      | _ => none)
    else if f = 54 then (match a with
      | [.slc 1 l] => match isRows l && Nat.ble (sumLen (l.map rwA)) 1000 with
        | true => some (.slc 1 (runesA (l.map rwA).flatten), [])
        | false => none
      | _ => none)
    else if f = 63 then (match a with
      | [.val (.string s)] => match Nat.ble s.data.toList.length 1000 with
        | true => some (.val (.bool (nameF s.data.toList)), [])
        | false => none
      | _ => none)
    else if f = 32 then (match a with
      | [.slc 1 l, .val (.int .i64 (.ofNat k))] => match isRunes l && Nat.ble k 1000 with
        | true => some (.val (.int .i64 (leadF (l.map std.int) k)), [])
        | false => none
      | _ => none)
    else if f = 29 then (match a with
      | [.slc 1 l, .val (.int .i64 (.ofNat k)), .val (.string s)] => match isRunes l && (Nat.ble l.length 1000 && (Nat.ble k l.length && Nat.ble s.data.toList.length 1000)) with
        | true => some (.val (.bool (startsF (l.map std.int) k s.data.toList)), [])
        | false => none
      | _ => none)
    else none
  | _ => none
theorem b4_ok (f : Nat) (a : List AV) (o : List Ob) (r : AV) (o' : List Ob) (h : b4 f a o = some (r, o')) : f < 1000000 ∧ BCall Tryz.prog f a o r o' := by
  unfold b4 at h
  split at h
  · split at h
    · rename_i e; subst e
      split at h
      · split at h
        · rename_i hp hr
          cases h
          exact ⟨by decide, Run_e hp hr⟩
        · cases h
      · cases h
    split at h
    · rename_i e; subst e
      split at h
      · split at h
        · rename_i hp hr
          cases h
          exact ⟨by decide, All_e hp hr⟩
        · cases h
      · cases h
    split at h
    · rename_i e; subst e
      split at h
      · cases h
        exact ⟨by decide, Contains_b _ _⟩
      · cases h
    split at h
    · rename_i e; subst e
      split at h
      · split at h
        · rename_i hp
          cases h
          exact ⟨by decide, text_e hp⟩
        · cases h
      · cases h
    split at h
    · rename_i e; subst e
      split at h
      · split at h
        · rename_i hp
          cases h
          exact ⟨by decide, Concat_e hp⟩
        · cases h
      · cases h
    split at h
    · rename_i e; subst e
      split at h
      · split at h
        · rename_i hp
          cases h
          have h2 := Nat.le_of_ble_eq_true hp
          exact ⟨by decide, Name_b _ (by simp at h2; exact Nat.le_trans h2 (by decide))⟩
        · cases h
      · cases h
    split at h
    · rename_i e; subst e
      split at h
      · split at h
        · rename_i hp
          cases h
          exact ⟨by decide, Lead_e hp⟩
        · cases h
      · cases h
    split at h
    · rename_i e; subst e
      split at h
      · split at h
        · rename_i hp
          cases h
          exact ⟨by decide, Starts_e hp⟩
        · cases h
      · cases h
    cases h
  · cases h
end Go.Proofs.YtlnojpllgclgfaaGreat
namespace Go.Proofs.YtlnojpllgclgfaaGreat
open Go.RowKit Go.Lib
structure BE where
  f : Nat
  args : List AV
  ob : List Ob
  res : AV
  ob' : List Ob
def baseT : List BE → Nat → List AV → List Ob → Option (AV × List Ob)
  | [], _, _, _ => none
  | e :: r, f, a, o => match Nat.beq f e.f && (all2 (aEq 40) e.args a && all2 oEq e.ob o) with
    | true => some (e.res, e.ob')
    | false => baseT r f a o
def GoodB : List BE → Prop
  | [] => True
  | e :: r => (Nat.ble (e.f + 1) 1000000 = true ∧ BCall Tryz.prog e.f e.args e.ob e.res e.ob') ∧ GoodB r
theorem base_ok : ∀ {L : List BE}, GoodB L → ∀ f a o r o', baseT L f a o = some (r, o') → f < 1000000 ∧ BCall Tryz.prog f a o r o'
  | [], _, _, _, _, _, _, h => by cases h
  | e :: r, hg, f, a, o, x, o', h => by
    unfold baseT at h
    split at h
    · rename_i hb
      simp only [Bool.and_eq_true] at hb
      obtain ⟨h1, h2, h3⟩ := hb
      obtain ⟨rfl, rfl⟩ : e.res = x ∧ e.ob' = o' := by simpa using h
      rw [Nat.eq_of_beq_eq_true h1, ← all2_eq (aEq_eq 40) _ _ h2, ← all2_eq (fun _ _ => oEq_eq) _ _ h3]
      exact ⟨Nat.le_of_ble_eq_true hg.1.1, hg.1.2⟩
    · exact base_ok hg.2 f a o x o' h
theorem ask0_ok : ∀ T sh, ask0 T sh = true → EqOk Tryz.prog T sh ∧ KeyOk Tryz.prog T sh := fun _ _ h => by cases h
end Go.Proofs.YtlnojpllgclgfaaGreat
namespace Go.Proofs.YtlnojpllgclgfaaGreat
open Go.RowKit Go.Lib
section
variable {P : Program} {ty : Tys}
def plainK (P : Program) (t : Nat) : Bool := match P.underlying t with
  | some (.int _) => true
  | some .bool => true
  | some .string => true
  | _ => false
theorem check_plain {t : Nat} (h : plainK P t = true) (b : Bool) (n : Nat) (v : Value) (W : World) : (Instr.checkKey b (n + 1) t v).run P W = .ok () W := by
  unfold plainK at h
  split at h
  · rename_i k hu
    unfold Instr.checkKey
    rw [Sem.run_bind, run_underlying hu]
    rfl
  · rename_i hu
    unfold Instr.checkKey
    rw [Sem.run_bind, run_underlying hu]
    rfl
  · rename_i hu
    unfold Instr.checkKey
    rw [Sem.run_bind, run_underlying hu]
    rfl
  · cases h
theorem check_loop (hT : TyOk P ty) (b : Bool) (n : Nat) (xs : List Value) (W : World) : ∀ fs : List Field, (fs.all fun f => plainK P f.type && ((tyLook f.type ty).ok && decide (f.offset + (tyLook f.type ty).size ≤ xs.length))) = true →
    (forIn fs PUnit.unit (fun f _ => if f.name ≠ "_" then (do
        let q ← part f.type xs.toArray f.offset
        Instr.checkKey b (n + 1) f.type q
        pure (ForInStep.yield PUnit.unit)) else pure (ForInStep.yield PUnit.unit)) : Sem PUnit).run P W = .ok PUnit.unit W
  | [], _ => rfl
  | f :: r, h => by
    rw [List.all_cons, Bool.and_eq_true, Bool.and_eq_true, Bool.and_eq_true, decide_eq_true_eq] at h
    obtain ⟨⟨h1, h2, h3⟩, h4⟩ := h
    have ih := check_loop hT b n xs W r h4
    rw [List.forIn_cons, Sem.run_bind]
    by_cases hn : f.name ≠ "_"
    · rw [if_pos hn]
      simp only [Sem.run_bind, part_ok hT h2 xs f.offset h3 W, Result.andThen_ok, check_plain h1 b n _ W, Sem.run_pure]
      exact ih
    · rw [if_neg hn]
      simp only [Sem.run_bind, Sem.run_pure, Result.andThen_ok]
      exact ih
theorem KeyOk.plan (hT : TyOk P ty) {T : Nat} {sh : List Srt} (h : eqPlan P ty 8 T = some sh) (hk : (tyLook T ty).ok = true) (ha : (tyLook T ty).agg = true) (hs : (P.underlying T).isSome = true) (hkd : (tyLook T ty).kd = 1)
    (hf : ((P.fieldsOf T).toList.all fun f => plainK P f.type && ((tyLook f.type ty).ok && decide (f.offset + (tyLook f.type ty).size ≤ sh.length))) = true) : KeyOk P T sh := by
  obtain ⟨fs, hu, _⟩ := (ty_ok hT hk).strct hkd
  have hF : P.fieldsOf T = fs := by simp [Program.fieldsOf, hu]
  rw [hF] at hf
  refine ⟨fun xs b W hx => ?_, fun xs ys W hx hy => ?_⟩
  · have hl := srt_len hx
    rw [← hl] at hf
    have := check_loop hT b 9998 xs W fs.toList hf
    show (Instr.checkKey b (9999 + 1) T (.agg xs.toArray)).run P W = _
    unfold Instr.checkKey
    rw [Sem.run_bind, run_underlying hu]
    simp only [Result.andThen_ok]
    rw [← Array.forIn_toList, Sem.run_bind]
    exact (congrArg (fun r => Result.andThen r _) this).trans rfl
  · have key := eqPlan_ok hT 8 9992 T sh h hk xs ys W hx hy
    unfold mkV at key
    rw [if_pos ha, if_pos ha] at key
    exact key
end
end Go.Proofs.YtlnojpllgclgfaaGreat
namespace Go.Proofs.YtlnojpllgclgfaaGreat
open Go.RowKit Go.Lib
section
variable {P : Program} {W : World} {g : Gh} {cur : Array Value} {T : TypeId} {cs : List AV} {f : Nat}
theorem box_start (M : Mem W g []) (hc : ARelC W g [] cur.toList cs) : Mem (W.alloc (.cells cur T)) (g.new W []) [.box cs] ∧ ARelL (W.alloc (.cells cur T)) (g.new W []) [.box cs] [.pointer (some ⟨W.heap.size, 0, none⟩)] [.box 0 0] ∧ ∀ b, b < W.heap.size → (g.new W []).G b = none := by
  have hG : ∀ b, g.G b = none := fun b => by
    cases h : g.G b with
    | none => rfl
    | some id => exact absurd (M.own b id h).2 (by simp)
  refine ⟨M.new (.cells cur T) (.box cs) (fun c h => by cases h; exact ⟨_, _, rfl, hc⟩) (fun c h => by cases h) (fun y h => by cases h) (fun et sz fz e xs h => by cases h), argL_cons ⟨by simp [Gh.new], trivial⟩ argL_nil, fun b hb => ?_⟩
  simp only [Gh.new]
  rw [if_neg (by omega)]; exact hG b
theorem box_below {w' : World} {g' : Gh} {ob' : List Ob} (hn : ∀ b, b < W.heap.size → (g.new W []).G b = none) (S : Step (W.alloc (.cells cur T)) (g.new W []) [.box cs] w' g' ob') : Below W.heap.size W w' := by
  have hsz : (W.alloc (.cells cur T)).heap.size = W.heap.size + 1 := by simp
  refine ⟨S.os, S.tape, S.output, ?_, fun b hb => ?_⟩
  · have := S.size; omega
  · rw [S.keep b (by omega) (hn b hb)]; exact heap_old hb
end
set_option maxRecDepth 100000 in
set_option maxHeartbeats 2000000 in
theorem caught_idle (p : Addr) (w : World) :
    CallsD Tryz.prog 132 #[.pointer (some p)] .returning w fun e u' w' => e = .returned (.tuple #[]) ∧ u' = .returning ∧ w' = w := by
  refine callsD_of_wpS Tryz.func132 rfl fun c₀ cs hu => ?_
  apply wpS_seq
  apply wpS_region
  simp [wpOpsS, go_sem, recoverD, hu, Tryz.ntmps132, Exit.thenS]
  refine wpS_of_wp ?_
  rw [show (#[Value.pointer (some p)] ++ ((Array.replicate 17 undef).setIfInBounds 4 Value.nilIface).setIfInBounds 1 Value.nilIface) = #[.pointer (some p), undef, .nilIface, undef, undef, .nilIface, undef, undef, undef, undef, undef, undef, undef, undef, undef, undef, undef, undef] from rfl]
  go_wp2
  cases c₀
  simp_all [bodyPostS, results, Tryz.results132]
end Go.Proofs.YtlnojpllgclgfaaGreat
namespace Go.Proofs.YtlnojpllgclgfaaGreat
open Go.RowKit Go.Lib
theorem bel_row {B k : Nat} {w0 w : World} (hb : Below B w0 w) (h : B ≤ k) (cs : Array Value) : Below B w0 (w.setRow k cs) :=
  hb.trans ⟨rfl, rfl, rfl, by simp [World.setRow], fun j hj => setRow_other w k j cs (by omega)⟩
theorem BCall.atBox2 {P : Program} {W : World} {g : Gh} {cur : Array Value} {T : TypeId} {cs : List AV} {f : Nat} {res : AV} {cs' : List AV} (h : BCall P f [.box 0 0] [.box cs] res [.box cs']) (M : Mem W g []) (hc : ARelC W g [] cur.toList cs) :
    Calls P f #[.pointer (some ⟨W.heap.size, 0, none⟩)] (W.alloc (.cells cur T)) fun e w' => ∃ v g', e = .returned v ∧ Below W.heap.size W w' ∧ ARel w' g' [.box cs'] v res ∧ ∀ b o, g'.A b o → (g.A b o ∧ b < W.heap.size) ∨ (W.heap.size ≤ b ∧ b < w'.heap.size) := by
  obtain ⟨M2, hL, hn⟩ := box_start (T := T) M hc
  refine (h.2 _ _ _ M2 hL).mono fun e w' ⟨v, g', k1, k2, k3, k4⟩ => ⟨v, g', k1, box_below hn k4, k3, fun b o h => ?_⟩
  have hlt := (k2.imm b o h).1
  rcases k4.imm b o h with h1 | ⟨id, h1⟩ | h1
  · by_cases hb : b < W.heap.size
    · exact .inl ⟨h1, hb⟩
    · exact .inr ⟨by omega, hlt⟩
  · by_cases hb : b < W.heap.size
    · rw [hn b hb] at h1; cases h1
    · exact .inr ⟨by omega, hlt⟩
  · have : (W.alloc (.cells cur T)).heap.size = W.heap.size + 1 := by simp
    exact .inr ⟨by omega, hlt⟩
theorem pur0_of {w : World} {g : Gh} {ob : List Ob} {v : Value} {u : AV} (hu : u.pur0 = true) (h : ARel0 w g ob v u) : PRel w g.A v u := by
  cases u <;> first | exact h | cases hu
theorem pur0_to {w : World} {g : Gh} {ob : List Ob} {v : Value} {u : AV} (hu : u.pur0 = true) (h : PRel w g.A v u) : ARel0 w g ob v u := by
  cases u <;> first | exact h | cases hu
set_option maxRecDepth 100000 in
set_option maxHeartbeats 2000000 in
theorem read_ok (l : List Int) (cs : List AV) (k : Int) (hcs : cs.length = 9) (hcp : cs.all AV.pur0 = true) (hD : BCall Tryz.prog 133 [.box 0 0] [rdB l 0] (.agg cs) [rdB l k]) : BCall Tryz.prog 110 [.slc 1 (runesA l)] [] (.tup [.agg cs, .val (.bool true)]) [] := by
  unfold rdB at hD
  refine BCall.hand (enters_of Tryz.func110 (by kernel_rfl) rfl) fun w g vs M hL => ?_
  obtain ⟨v1, vs1, rfl, h1, hL⟩ := argsCons hL
  obtain rfl := argsNil hL
  obtain ⟨A, c, rfl, hr⟩ := runes_rd h1 M
  obtain ⟨Z, hZ⟩ : ∃ Z, Z = #[Value.int IntKind.i64 0, Value.string ⟨#[]⟩, Value.slice none 0 0, Value.bool false, Value.string ⟨#[]⟩, Value.string ⟨#[]⟩, Value.string ⟨#[]⟩, Value.string ⟨#[]⟩, Value.slice none 0 0] := ⟨_, rfl⟩
  obtain ⟨W0, hW0⟩ : ∃ W0, W0 = (w.alloc (Obj.cells Z 39)).alloc (Obj.cells #[Value.bool true] 4) := ⟨_, rfl⟩
  have hb : Below w.heap.size w W0 := by
    rw [hW0]; exact ((Below.refl w.heap.size w).alloc (Nat.le_refl _) _).alloc (by simp) _
  have hsz : W0.heap.size = w.heap.size + 1 + 1 := by rw [hW0]; simp
  have M1 := M.below hb
  have hc0 : ARelC W0 g [] #[Value.slice A l.length c, Value.int IntKind.i64 0].toList [.slc 1 (runesA l), .val (.int .i64 0)] := by
    refine ⟨rfl, fun j v x hv hx => ?_⟩
    match j, hv, hx with
    | 0, hv, hx => cases hv; cases hx; exact ⟨ARel0.ext (Ext.below M hb) h1, rfl⟩
    | 1, hv, hx => cases hv; cases hx; exact ⟨PRel.val _ rfl, rfl⟩
    | j + 2, hv, hx => simp at hv
  have cC := hD.atBox2 (T := 160) M1 hc0
  rw [hsz] at cC
  go_enter_defers Tryz.func110, Tryz.ntmps110
  go_wp2_with (go_at_call 133; rw [← hZ, ← hW0]; refine cC.mono ?_)
  rintro e w' v rfl hbe g' hv hA
  rw [← hZ, ← hW0] at hbe
  obtain ⟨vs, rfl, hvs⟩ := (show ARel1 w' g' _ v (.agg _) from hv)
  have hz0 : w'.heap[w.heap.size]? = some (Obj.cells Z 39 (0, 0)) := by
    rw [hbe.block w.heap.size (by omega), hW0, heap_old (by simp)]; exact heap_new _ _
  have hz1 : w'.heap[w.heap.size + 1]? = some (Obj.cells #[Value.bool true] 4 (0, 0)) := by
    rw [hbe.block (w.heap.size + 1) (by omega), hW0]
    have := heap_new (w.alloc (Obj.cells Z 39)) (Obj.cells #[Value.bool true] 4)
    simpa using this
  have hk1 : w'.cell? ⟨w.heap.size + 1, 0, none⟩ = some (.bool true) := by simp [World.cell?, hz1]
  have hk2 : w'.frozen? ⟨w.heap.size + 1, 0, none⟩ = false := by simp [World.frozen?, hz1]
  have hvl : vs.size = 9 := by have := hvs.1; rw [hcs] at this; simpa using this
  have hv1 : ∀ v ∈ vs.toList, v.oneCell' = true := fun v hv => by
    obtain ⟨j, hj, rfl⟩ := List.mem_iff_getElem.1 hv
    exact (hvs.2 j _ _ (List.getElem?_eq_getElem hj) (List.getElem?_eq_getElem (by rw [← hvs.1]; exact hj))).2
  have hst : Sem.run Tryz.prog (storeCells ⟨w.heap.size, 0, none⟩ vs.toList) w' = .ok () (w'.setRow w.heap.size vs) := by
    have := run_storeCells_from (P := Tryz.prog) w.heap.size 39 vs.toList 0 Z w' hz0 (by rw [hZ]; simp [hvl]) hv1
    simpa using this
  have hr0 : (w'.setRow w.heap.size vs).heap[w.heap.size]? = some (Obj.cells vs 39 (0, 0)) := setRow_heap _ _ _ _ _ _ hz0
  have hr1 : (w'.setRow w.heap.size vs).heap[w.heap.size + 1]? = some (Obj.cells #[Value.bool true] 4 (0, 0)) := by
    rw [setRow_other _ _ _ _ (by omega)]; exact hz1
  have hk1 : (w'.setRow w.heap.size vs).cell? ⟨w.heap.size + 1, 0, none⟩ = some (.bool true) := by simp [World.cell?, hr1]
  have hk2 : (w'.setRow w.heap.size vs).frozen? ⟨w.heap.size + 1, 0, none⟩ = false := by simp [World.frozen?, hr1]
  go_wp2
  have eW : (w'.setRow w.heap.size vs).setCell ⟨w.heap.size + 1, 0, none⟩ (Value.bool true) = (w'.setRow w.heap.size vs).setRow (w.heap.size + 1) #[Value.bool true] :=
    setCell_eq_setRow _ _ _ _ _ _ _ hr1
  rw [eW]
  have hs0 : ((w'.setRow w.heap.size vs).setRow (w.heap.size + 1) #[Value.bool true]).heap[w.heap.size]? = some (Obj.cells vs 39 (0, 0)) := by
    rw [setRow_other _ _ _ _ (by omega)]; exact hr0
  have hs1 : ((w'.setRow w.heap.size vs).setRow (w.heap.size + 1) #[Value.bool true]).heap[w.heap.size + 1]? = some (Obj.cells #[Value.bool true] 4 (0, 0)) := setRow_heap _ _ _ _ _ _ hr1
  have hbW : Below w.heap.size w ((w'.setRow w.heap.size vs).setRow (w.heap.size + 1) #[Value.bool true]) :=
    bel_row (bel_row (hb.trans (hbe.mono (by omega))) (Nat.le_refl _) _) (by omega) _
  have hsW : ((w'.setRow w.heap.size vs).setRow (w.heap.size + 1) #[Value.bool true]).heap.size = w'.heap.size := by simp
  have hkeep : ∀ b o, g'.A b o → (g.imm w ((w'.setRow w.heap.size vs).setRow (w.heap.size + 1) #[Value.bool true])).A b o ∧ ((w'.setRow w.heap.size vs).setRow (w.heap.size + 1) #[Value.bool true]).cell? ⟨b, o, none⟩ = w'.cell? ⟨b, o, none⟩ := fun b o h => by
    have hne : b ≠ w.heap.size ∧ b ≠ w.heap.size + 1 ∧ (g.A b o ∨ (w.heap.size ≤ b ∧ b < w'.heap.size)) := by
      rcases hA b o h with ⟨h1, _⟩ | ⟨h1, h2⟩
      · have := (M.imm b o h1).1
        exact ⟨by omega, by omega, .inl h1⟩
      · exact ⟨by omega, by omega, .inr ⟨by omega, h2⟩⟩
    refine ⟨by show g.A b o ∨ _; rw [hsW]; exact hne.2.2, ?_⟩
    rw [cell_setRow_other _ _ _ _ hne.2.1, cell_setRow_other _ _ _ _ hne.1]
  generalize (w'.setRow w.heap.size vs).setRow (w.heap.size + 1) #[Value.bool true] = W2 at *
  refine leaves_cons (f := 132) (args := #[.pointer (some ⟨w.heap.size + 1, 0, none⟩)]) (by simp) (by simp [go_sem]) ?_
  refine (caught_idle ⟨w.heap.size + 1, 0, none⟩ _).mono ?_
  rintro e u' w'' ⟨rfl, rfl, rfl⟩
  have hc1 : w''.cell? ⟨w.heap.size + 1, 0, none⟩ = some (.bool true) := by simp [World.cell?, hs1]
  have hl0 : Sem.run Tryz.prog (loadVar 39 ⟨w.heap.size, 0, none⟩) w'' = .ok (.agg vs) w'' :=
    run_loadVar_row (P := Tryz.prog) w'' w.heap.size _ 39 vs (0, 0) _ hs0 rfl rfl (by rw [hvl]; rfl)
  have hl1 : Sem.run Tryz.prog (loadVar 4 ⟨w.heap.size + 1, 0, none⟩) w'' = .ok (.bool true) w'' := by
    simp [go_sem, hc1]
  have ha : ∀ q : Addr, Sem.run Tryz.prog (asAddr (Value.pointer (some q))) w'' = .ok q w'' := fun _ => rfl
  simp [Leaves, settle, results, Tryz.results110, hl0, hl1, ha]
  refine ⟨hbW, ⟨#[.agg vs, .bool true], rfl, rfl, fun j y u hy hu => ?_⟩⟩
  match j, hy, hu with
  | 0, hy, hu =>
    cases hy; cases hu
    refine ⟨vs, rfl, hvs.1, fun j y u e1 e2 => ?_⟩
    have h9 := hvs.2 j y u e1 e2
    have hu : u.pur0 = true := List.all_eq_true.1 hcp u (List.mem_of_getElem? e2)
    exact ⟨pur0_to hu (PRel.keep hkeep (pur0_of hu h9.1)), h9.2⟩
  | 1, hy, hu => cases hy; cases hu; exact PRel.val _ rfl
  | j + 2, hy, hu => simp at hy
end Go.Proofs.YtlnojpllgclgfaaGreat
namespace Go.Proofs.YtlnojpllgclgfaaGreat
open Go.RowKit Go.Lib
def base2 (L : List BE) (f : Nat) (a : List AV) (o : List Ob) : Option (AV × List Ob) := match baseT L f a o with
  | some r => some r
  | none => b4 f a o
theorem base2_ok {L : List BE} (hg : GoodB L) (f : Nat) (a : List AV) (o : List Ob) (r : AV) (o' : List Ob) (h : base2 L f a o = some (r, o')) : f < 1000000 ∧ BCall Tryz.prog f a o r o' := by
  unfold base2 at h
  split at h
  · rename_i q hq
    cases h
    exact base_ok hg f a o r o' hq
  · exact b4_ok f a o r o' h
noncomputable def Ha_tab : List (Nat × FnI) := [
  (133, ⟨Tryz.f133, Tryz.f133.body.getD .skip, fun _ => .nil⟩),
  (147, ⟨Tryz.f147, Tryz.f147.body.getD .skip, fun _ => .nil⟩),
  (148, ⟨Tryz.f148, Tryz.f148.body.getD .skip, fun _ => .nil⟩),
  (149, ⟨Tryz.f149, Tryz.f149.body.getD .skip, fun _ => .nil⟩),
  (160, ⟨Tryz.f160, Tryz.f160.body.getD .skip, fun _ => .nil⟩),
  (154, ⟨Tryz.f154, Tryz.f154.body.getD .skip, fun _ => .nil⟩),
  (161, ⟨Tryz.f161, Tryz.f161.body.getD .skip, fun _ => .nil⟩),
  (173, ⟨Tryz.f173, Tryz.f173.body.getD .skip, fun _ => .nil⟩),
  (34, ⟨Tryz.f34, Tryz.f34.body.getD .skip, fun _ => .nil⟩),
  (162, ⟨Tryz.f162, Tryz.f162.body.getD .skip, fun _ => .nil⟩),
  (165, ⟨Tryz.f165, Tryz.f165.body.getD .skip, fun _ => .nil⟩),
  (164, ⟨Tryz.f164, Tryz.f164.body.getD .skip, fun _ => .nil⟩),
  (176, ⟨Tryz.f176, Tryz.f176.body.getD .skip, fun _ => .nil⟩),
  (108, ⟨Tryz.f108, Tryz.f108.body.getD .skip, fun _ => .nil⟩),
  (185, ⟨Tryz.f185, Tryz.f185.body.getD .skip, fun _ => .nil⟩),
  (146, ⟨Tryz.f146, Tryz.f146.body.getD .skip, fun _ => .nil⟩),
  (39, ⟨Tryz.f39, Tryz.f39.body.getD .skip, fun _ => .nil⟩),
  (163, ⟨Tryz.f163, Tryz.f163.body.getD .skip, fun _ => .nil⟩),
  (175, ⟨Tryz.f175, Tryz.f175.body.getD .skip, fun _ => .nil⟩),
  (184, ⟨Tryz.f184, Tryz.f184.body.getD .skip, fun _ => .nil⟩),
  (52, ⟨Tryz.f52, Tryz.f52.body.getD .skip, fun _ => .nil⟩),
  (152, ⟨Tryz.f152, Tryz.f152.body.getD .skip, fun _ => .nil⟩)]
theorem Ha_tab_ok : GoodL Ha_tab := by
  unfold Ha_tab
  refine ⟨⟨Nat.le_of_ble_eq_true rfl, Tryz.func133, rfl, by kernel_rfl⟩, ?_⟩
  refine ⟨⟨Nat.le_of_ble_eq_true rfl, Tryz.func147, rfl, by kernel_rfl⟩, ?_⟩
  refine ⟨⟨Nat.le_of_ble_eq_true rfl, Tryz.func148, rfl, by kernel_rfl⟩, ?_⟩
  refine ⟨⟨Nat.le_of_ble_eq_true rfl, Tryz.func149, rfl, by kernel_rfl⟩, ?_⟩
  refine ⟨⟨Nat.le_of_ble_eq_true rfl, Tryz.func160, rfl, by kernel_rfl⟩, ?_⟩
  refine ⟨⟨Nat.le_of_ble_eq_true rfl, Tryz.func154, rfl, by kernel_rfl⟩, ?_⟩
  refine ⟨⟨Nat.le_of_ble_eq_true rfl, Tryz.func161, rfl, by kernel_rfl⟩, ?_⟩
  refine ⟨⟨Nat.le_of_ble_eq_true rfl, Tryz.func173, rfl, by kernel_rfl⟩, ?_⟩
  refine ⟨⟨Nat.le_of_ble_eq_true rfl, Tryz.func34, rfl, by kernel_rfl⟩, ?_⟩
  refine ⟨⟨Nat.le_of_ble_eq_true rfl, Tryz.func162, rfl, by kernel_rfl⟩, ?_⟩
  refine ⟨⟨Nat.le_of_ble_eq_true rfl, Tryz.func165, rfl, by kernel_rfl⟩, ?_⟩
  refine ⟨⟨Nat.le_of_ble_eq_true rfl, Tryz.func164, rfl, by kernel_rfl⟩, ?_⟩
  refine ⟨⟨Nat.le_of_ble_eq_true rfl, Tryz.func176, rfl, by kernel_rfl⟩, ?_⟩
  refine ⟨⟨Nat.le_of_ble_eq_true rfl, Tryz.func108, rfl, by kernel_rfl⟩, ?_⟩
  refine ⟨⟨Nat.le_of_ble_eq_true rfl, Tryz.func185, rfl, by kernel_rfl⟩, ?_⟩
  refine ⟨⟨Nat.le_of_ble_eq_true rfl, Tryz.func146, rfl, by kernel_rfl⟩, ?_⟩
  refine ⟨⟨Nat.le_of_ble_eq_true rfl, Tryz.func39, rfl, by kernel_rfl⟩, ?_⟩
  refine ⟨⟨Nat.le_of_ble_eq_true rfl, Tryz.func163, rfl, by kernel_rfl⟩, ?_⟩
  refine ⟨⟨Nat.le_of_ble_eq_true rfl, Tryz.func175, rfl, by kernel_rfl⟩, ?_⟩
  refine ⟨⟨Nat.le_of_ble_eq_true rfl, Tryz.func184, rfl, by kernel_rfl⟩, ?_⟩
  refine ⟨⟨Nat.le_of_ble_eq_true rfl, Tryz.func52, rfl, by kernel_rfl⟩, ?_⟩
  refine ⟨⟨Nat.le_of_ble_eq_true rfl, Tryz.func152, rfl, by kernel_rfl⟩, ?_⟩
  exact trivial
def exD1 : List Int := [60, 33, 69, 78, 84, 73, 84, 89, 32, 37, 32, 112, 32, 34, 60, 33, 69, 78, 84, 73, 84, 89, 32, 101, 32, 39, 120, 39, 62, 34, 62]
def exD2 : List Int := [60, 33, 69, 78, 84, 73, 84, 89, 32, 101, 32, 39, 120, 39, 62]
def exD3 : List Int := [60, 33, 69, 78, 84, 73, 84, 89, 32, 101, 32, 39, 98, 9, 39, 62]
def exV1 : List AV := [.val (.int .i64 2), .val (.string ⟨⟨[112]⟩⟩), .slc 1 (runesA exD2), .val (.bool false), .val (.string ⟨⟨[]⟩⟩), .val (.string ⟨⟨[]⟩⟩), .val (.string ⟨⟨[]⟩⟩), .val (.string ⟨⟨[]⟩⟩), .val (.slice none 0 0)]
def exV2 : List AV := [.val (.int .i64 1), .val (.string ⟨⟨[101]⟩⟩), .slc 1 (runesA [120]), .val (.bool false), .val (.string ⟨⟨[]⟩⟩), .val (.string ⟨⟨[]⟩⟩), .val (.string ⟨⟨[]⟩⟩), .val (.string ⟨⟨[]⟩⟩), .val (.slice none 0 0)]
def exV3 : List AV := [.val (.int .i64 1), .val (.string ⟨⟨[101]⟩⟩), .slc 1 (runesA [98, 9]), .val (.bool false), .val (.string ⟨⟨[]⟩⟩), .val (.string ⟨⟨[]⟩⟩), .val (.string ⟨⟨[]⟩⟩), .val (.string ⟨⟨[]⟩⟩), .val (.slice none 0 0)]
theorem declD1 : BCall Tryz.prog 133 [.box 0 0] [.box [.slc 1 (runesA exD1), .val (.int .i64 0)]] (.agg exV1) [.box [.slc 1 (runesA exD1), .val (.int .i64 31)]] :=
  (run_ok (lf := 100) (tab_ok Ha_tab_ok) b4_ok (ask := ask0) ask0_ok 40 _ _ _ _ _ (by kernel_rfl)).2
theorem readD1 : BCall Tryz.prog 110 [.slc 1 (runesA exD1)] [] (.tup [.agg exV1, .val (.bool true)]) [] := read_ok exD1 exV1 31 rfl rfl declD1
theorem declD2 : BCall Tryz.prog 133 [.box 0 0] [.box [.slc 1 (runesA exD2), .val (.int .i64 0)]] (.agg exV2) [.box [.slc 1 (runesA exD2), .val (.int .i64 15)]] :=
  (run_ok (lf := 100) (tab_ok Ha_tab_ok) b4_ok (ask := ask0) ask0_ok 40 _ _ _ _ _ (by kernel_rfl)).2
theorem readD2 : BCall Tryz.prog 110 [.slc 1 (runesA exD2)] [] (.tup [.agg exV2, .val (.bool true)]) [] := read_ok exD2 exV2 15 rfl rfl declD2
theorem declD3 : BCall Tryz.prog 133 [.box 0 0] [.box [.slc 1 (runesA exD3), .val (.int .i64 0)]] (.agg exV3) [.box [.slc 1 (runesA exD3), .val (.int .i64 16)]] :=
  (run_ok (lf := 100) (tab_ok Ha_tab_ok) b4_ok (ask := ask0) ask0_ok 40 _ _ _ _ _ (by kernel_rfl)).2
theorem readD3 : BCall Tryz.prog 110 [.slc 1 (runesA exD3)] [] (.tup [.agg exV3, .val (.bool true)]) [] := read_ok exD3 exV3 16 rfl rfl declD3
end Go.Proofs.YtlnojpllgclgfaaGreat
namespace Go.Proofs.YtlnojpllgclgfaaGreat
open Go.RowKit Go.Lib
section
variable {w : World} {g : Gh} {ob : List Ob}
theorem box_ext {i : Nat} {cs cs' : List AV} (hi : ob[i]? = some (.box cs)) : Ext w g ob w g (ob.set i (.box cs')) := by
  have hl := lt_of_some hi
  refine ⟨fun b o h => ⟨h, rfl⟩, fun _ _ => rfl, fun j hj => ?_, fun j hj => ?_, fun j et sz fz e xs hj => ?_, fun b j _ _ => ⟨rfl, fun _ _ h => h⟩⟩
  · by_cases e : j = i
    · subst e; rw [List.getElem?_set_self hl]; trivial
    · rw [List.getElem?_set_ne (Ne.symm e)]; exact hj
  · have : j ≠ i := by rintro rfl; rw [hi] at hj; exact hj
    rw [List.getElem?_set_ne (Ne.symm this)]; exact hj
  · have : j ≠ i := by rintro rfl; rw [hi] at hj; cases hj
    exact ⟨fz, e, xs, by rw [List.getElem?_set_ne (Ne.symm this)]; exact hj, Nat.le_refl _, fun _ => .inl ⟨rfl, fun b h => ⟨h, rfl⟩⟩⟩
theorem box_told (M : Mem w g ob) {i : Nat} {cs cs' : List AV} (hi : ob[i]? = some (.box cs)) (hc : ∀ cur T, w.heap[g.loc i]? = some (.cells cur T (0, 0)) → ARelC w g ob cur.toList cs → ARelC w g ob cur.toList cs') : Mem w g (ob.set i (.box cs')) := by
  have hl := lt_of_some hi
  have E : Ext w g ob w g (ob.set i (.box cs')) := box_ext hi
  refine ⟨fun j c hj => ?_, fun j c hj k u hk => ?_, fun j y hj => ?_, fun b j hG => by rw [List.length_set]; exact M.own b j hG, fun b o hA => ?_, fun j et sz fz e xs hj => ?_, fun b hs => ?_, M.uniq⟩
  · by_cases e : j = i
    · subst e
      rw [List.getElem?_set_self hl] at hj
      obtain rfl : cs' = c := by simpa using hj
      obtain ⟨h1, cur, T, h2, h3⟩ := M.box _ _ hi
      exact ⟨h1, cur, T, h2, (hc _ _ h2 h3).ext E⟩
    · rw [List.getElem?_set_ne (Ne.symm e)] at hj
      obtain ⟨h1, cur, T, h2, h3⟩ := M.box _ _ hj
      exact ⟨h1, cur, T, h2, h3.ext E⟩
  · have e : j ≠ i := by rintro rfl; rw [List.getElem?_set_self hl] at hj; cases hj
    rw [List.getElem?_set_ne (Ne.symm e)] at hj
    exact M.fbox j c hj k u hk
  · have e : j ≠ i := by rintro rfl; rw [List.getElem?_set_self hl] at hj; cases hj
    rw [List.getElem?_set_ne (Ne.symm e)] at hj
    exact M.iter j y hj
  · obtain ⟨h1, h2⟩ := M.imm b o hA
    refine ⟨h1, fun j hG hs => ?_⟩
    obtain ⟨et, sz, e, xs, h3, h4⟩ := h2 j hG hs
    have e' : j ≠ i := by rintro rfl; rw [hi] at h3; cases h3
    exact ⟨et, sz, e, xs, by rw [List.getElem?_set_ne (Ne.symm e')]; exact h3, h4⟩
  · have e' : j ≠ i := by rintro rfl; rw [List.getElem?_set_self hl] at hj; cases hj
    rw [List.getElem?_set_ne (Ne.symm e')] at hj
    exact M.roww j et sz fz e xs hj
  · obtain ⟨j, et, sz, fz, e, xs, h3, h4⟩ := M.nsub b hs
    have e' : j ≠ i := by rintro rfl; rw [hi] at h4; cases h4
    exact ⟨j, et, sz, fz, e, xs, h3, by rw [List.getElem?_set_ne (Ne.symm e')]; exact h4⟩
end
theorem BCall.frozen {P : Program} {f : Nat} {args : List AV} {ob ob' : List Ob} {res : AV} {i j id et sz ep : Nat} {fz : Bool} {cs xs : List AV} (hi : ob[i]? = some (.box cs)) (hj : cs[j]? = some (.row id ep)) (hr : ob[id]? = some (.row et sz fz ep xs))
    (h : BCall P f args ((ob.set id (.row et sz true ep xs)).set i (.box (cs.set j (.slc sz xs)))) res ob') : BCall P f args ob res ob' := by
  refine ⟨h.1, fun w g vs M hL => ?_⟩
  have hne : i ≠ id := by rintro rfl; rw [hi] at hr; cases hr
  obtain ⟨hG, cur, T, hh, hc⟩ := M.box _ _ hi
  have hjl : j < cur.toList.length := by rw [hc.1]; exact lt_of_some hj
  have hv := (hc.2 j cur.toList[j] _ (List.getElem?_eq_getElem hjl) hj).1
  obtain ⟨_, et', sz', fz', e', xs', h1, h2, h3⟩ := hv
  rw [hr] at h1
  obtain ⟨rfl, rfl, rfl, rfl, rfl⟩ : et = et' ∧ sz = sz' ∧ fz = fz' ∧ ep = e' ∧ xs = xs' := by simpa using h1
  obtain ⟨g', M', E', R', L'⟩ := freeze_row M hr (h3 rfl) (Nat.le_refl _)
  have hi1 : (ob.set id (.row et sz true ep xs))[i]? = some (.box cs) := by rw [List.getElem?_set_ne (Ne.symm hne)]; exact hi
  have E2 : Ext w g' (ob.set id (.row et sz true ep xs)) w g' ((ob.set id (.row et sz true ep xs)).set i (.box (cs.set j (.slc sz xs)))) := box_ext hi1
  have M2 : Mem w g' ((ob.set id (.row et sz true ep xs)).set i (.box (cs.set j (.slc sz xs)))) := by
    refine box_told M' hi1 fun cur1 T1 hh1 hc1 => ?_
    have ecur : cur1 = cur := by
      have e1 : g'.loc i = g.loc i := by rw [L'.loc]
      rw [e1, hh] at hh1
      have hh2 : Obj.cells cur T (0, 0) = Obj.cells cur1 T1 (0, 0) := by simpa using hh1
      cases hh2; rfl
    subst ecur
    refine ⟨by rw [List.length_set]; exact hc1.1, fun q y u hy hu => ?_⟩
    by_cases e : q = j
    · subst e
      rw [List.getElem?_set_self (lt_of_some hj)] at hu
      obtain rfl : AV.slc sz xs = u := by simpa using hu
      rw [List.getElem?_eq_getElem hjl] at hy
      obtain rfl : cur1.toList[q] = y := by simpa using hy
      exact ⟨R'.to0, (hc.2 q _ _ (List.getElem?_eq_getElem hjl) hj).2⟩
    · rw [List.getElem?_set_ne (Ne.symm e)] at hu
      exact hc1.2 q y u hy hu
  have hext : Ext w g ob w g' ((ob.set id (.row et sz true ep xs)).set i (.box (cs.set j (.slc sz xs)))) := E'.trans E2 (by rw [L'.len]; exact Nat.le_refl _)
  have hL2 : ARelL w g' ((ob.set id (.row et sz true ep xs)).set i (.box (cs.set j (.slc sz xs)))) vs args := ⟨hL.1, fun q y u hy hu => (hL.2 q y u hy hu).ext hext⟩
  have hg : GhLe g g' ob ((ob.set id (.row et sz true ep xs)).set i (.box (cs.set j (.slc sz xs)))) := ⟨L'.A, L'.G, L'.loc, by simp⟩
  refine (h.2 w g' vs M2 hL2).mono fun e w' ⟨v, g'', h1, h2, h3, h4⟩ => ?_
  exact ⟨v, g'', h1, h2, h3, (Step.ghost hext hg).trans h4⟩
theorem BCall.frame {P : Program} {f : Nat} {args : List AV} {ob ob' : List Ob} {res : AV} (ρ : List Nat) (ho : onceR (ρ.map some) = true) (ht : there ob ρ = true) (hn : ρ.length ≤ ob'.length)
    (h : BCall P f (args.map (inA ob ρ)) (inObs ob ρ) res ob') : BCall P f args ob (outA ob ρ res) (back ob ρ ob') := by
  refine ⟨h.1, fun w g vs M hL => ?_⟩
  refine (h.2 w (g.ren (ρ.map some)) vs (mem_in M ho ht) ⟨by simp [hL.1], fun j v x hv hx => ?_⟩).mono fun e w' ⟨v, g', h1, h2, h3, h4⟩ => ?_
  · rw [List.getElem?_map, Option.map_eq_some_iff] at hx
    obtain ⟨x', hx', rfl⟩ := hx
    have h1 := hL.2 j v x' hv hx'
    have h2 := inA_rel ho ht h1.to
    cases x' with
    | agg cs => exact h2
    | tup _ => exact (show False from h1).elim
    | box i o => exact h2.to1' (by simp only [inA, inC]; split <;> simp)
    | iter i => exact h2.to1' (by simp only [inA, inC]; split <;> simp)
    | row i e => exact h2.to1' (by simp only [inA, inC]; split <;> (try split) <;> (try split) <;> simp)
    | _ => exact h2
  · have C : CallAt w g ob ρ w' g' ob' := ⟨ho, ht, hn, M, h2, h4⟩
    exact ⟨v, g.out g' ρ ob.length, h1, C.mem, C.rel h3, C.step⟩
end Go.Proofs.YtlnojpllgclgfaaGreat
namespace Go.Proofs.YtlnojpllgclgfaaGreat
open Go.RowKit Go.Lib
set_option maxRecDepth 100000 in
set_option maxHeartbeats 2000000 in
theorem build1_idle (p q : Addr) (w : World) :
    CallsD Tryz.prog 71 #[.pointer (some p), .pointer (some q)] .returning w fun e u' w' => e = .returned (.tuple #[]) ∧ u' = .returning ∧ w' = w := by
  refine callsD_of_wpS Tryz.func71 rfl fun c₀ cs hu => ?_
  apply wpS_seq
  apply wpS_region
  simp [wpOpsS, go_sem, recoverD, hu, Tryz.ntmps71, Exit.thenS]
  refine wpS_of_wp ?_
  rw [show (#[Value.pointer (some p), Value.pointer (some q)] ++ ((Array.replicate 15 undef).setIfInBounds 3 Value.nilIface).setIfInBounds 0 Value.nilIface) = #[.pointer (some p), .pointer (some q), .nilIface, undef, undef, .nilIface, undef, undef, undef, undef, undef, undef, undef, undef, undef, undef, undef] from rfl]
  go_wp2
  cases c₀
  simp_all [bodyPostS, results, Tryz.results71]
theorem run_makeMap (t : TypeId) (W : World) : (Instr.makeMap t none).run Tryz.prog W = .ok (.map (some W.heap.size)) (W.alloc (.map #[] 0)) := by
  simp only [Instr.makeMap, Sem.run_bind, Sem.run_pure, Result.andThen_ok, run_newObj]
  rfl
theorem FinOk.out {w w' : World} {g g' : Gh} {o0 ob ob' : List Ob} {res r : AV} {v : Value} {e : Ex} {k : Nat} (h : FinOk o0 res ob' e ⟨[(k, r)], ob⟩) (M : Mem w' g' ob) (hr : ARel w' g' ob v r) (S : Step w g o0 w' g' ob) :
    ∃ g2, Mem w' g2 ob' ∧ ARel w' g2 ob' v res ∧ Step w g o0 w' g2 ob' := by
  obtain ⟨ρ, r', l, h1, h2, h3, h4, h5, h6⟩ := h
  obtain ⟨⟨l1, e1, a1⟩, l2, e2, a2⟩ := both_some h4 h5
  have hF : Fits ob ob' ρ := renOs_get _ _ _ e2 a2
  exact ⟨g'.ren ρ, M.ren hF h1, leA_rel (renR_rel hF h1 hr e1 a1) h6, step_ren hF h1 h2 h3 S⟩
set_option maxRecDepth 100000 in
set_option maxHeartbeats 2000000 in
theorem Build_b (l : List Int) (f n k : Int) (hmax : ∀ ts t W, (Builtin.max_ ts t #[.int .i64 k, .int .i64 0]).run Tryz.prog W = .ok (.int .i64 k) W) (OB' rest : List Ob) (o2 o3 o4 : Ob) (cs5 : List AV) (res : AV) (obr : List Ob)
    (cI : BCall Tryz.prog 72 [.box 0 0, .slc 1 (runesA l), .val (.int .i64 f), .val (.int .i64 n), .val (.bool true)] [.box [.box 1 0, .val (.int .i64 k), .val (.slice none 0 0), .val (.int .i64 0)], .box [.iter 2, .iter 3, .val (.bool false), .val (.int .i64 0)], .iter (.map []), .iter (.map [])] (.tup []) OB')
    (h4 : 4 ≤ OB'.length)
    (h7 : back [.box [.val (.pointer none)], .box [.val (.int .i64 0), .val (.int .i64 0)], .iter (.map []), .iter (.map []), .box [.iter 2, .iter 3, .val (.bool false), .val (.int .i64 0)], .box [.box 4 0, .val (.int .i64 k), .val (.slice none 0 0), .val (.int .i64 0)]] [5, 4, 2, 3] OB' = .box [.val (.pointer none)] :: .box [.val (.int .i64 0), .val (.int .i64 0)] :: o2 :: o3 :: o4 :: .box (.box 4 0 :: cs5) :: rest)
    (hF : finF [] (.tup [.box 4 0, .agg [.val (.int .i64 0), .val (.int .i64 0)]]) (.box [.box 4 0] :: .box [.val (.int .i64 0), .val (.int .i64 0)] :: o2 :: o3 :: o4 :: .box (.box 4 0 :: cs5) :: rest) = some (res, obr)) (hbx : isBox (some o4) := by trivial) :
    BCall Tryz.prog 50 [.slc 1 (runesA l), .val (.int .i64 f), .val (.int .i64 n), .val (.int .i64 k)] [] res obr := by
  refine ⟨enters_of Tryz.func50 (by kernel_rfl) rfl, fun w g vs M hL => ?_⟩
  obtain ⟨v1, vs1, rfl, h1, hL⟩ := argsCons hL
  obtain ⟨v2, vs2, rfl, h2, hL⟩ := argsCons hL
  obtain ⟨v3, vs3, rfl, h3, hL⟩ := argsCons hL
  obtain ⟨v4, vs4, rfl, h4', hL⟩ := argsCons hL
  obtain rfl := argsNil hL
  obtain rfl := argVal h2
  obtain rfl := argVal h3
  obtain rfl := argVal h4'
  obtain ⟨A, c, rfl, hr⟩ := runes_rd h1 M
  -- the memory at the builder's call
  obtain ⟨W1, hW1⟩ : ∃ W, W = w.alloc (.cells #[.pointer none] 36) := ⟨_, rfl⟩
  obtain ⟨W2, hW2⟩ : ∃ W, W = W1.alloc (.cells #[.int .i64 0, .int .i64 0] 58) := ⟨_, rfl⟩
  obtain ⟨W3, hW3⟩ : ∃ W, W = W2.alloc (.map #[] 0) := ⟨_, rfl⟩
  obtain ⟨W4, hW4⟩ : ∃ W, W = W3.alloc (.map #[] 0) := ⟨_, rfl⟩
  obtain ⟨W5, hW5⟩ : ∃ W, W = W4.alloc (.cells #[.map (some (w.heap.size + 1 + 1)), .map (some (w.heap.size + 1 + 1 + 1)), .bool false, .int .i64 0] 74) := ⟨_, rfl⟩
  obtain ⟨W6, hW6⟩ : ∃ W, W = W5.alloc (.cells #[.pointer (some ⟨w.heap.size + 1 + 1 + 1 + 1, 0, none⟩), .int .i64 k, .slice none 0 0, .int .i64 0] 92) := ⟨_, rfl⟩
  have s1 : W1.heap.size = w.heap.size + 1 := by rw [hW1]; simp
  have s2 : W2.heap.size = w.heap.size + 1 + 1 := by rw [hW2]; simp [s1]
  have s3 : W3.heap.size = w.heap.size + 1 + 1 + 1 := by rw [hW3]; simp [s2]
  have s4 : W4.heap.size = w.heap.size + 1 + 1 + 1 + 1 := by rw [hW4]; simp [s3]
  have s5 : W5.heap.size = w.heap.size + 1 + 1 + 1 + 1 + 1 := by rw [hW5]; simp [s4]
  obtain ⟨b0, hb0⟩ : ∃ b : Ob, b = .box [.val (.pointer none)] := ⟨_, rfl⟩
  obtain ⟨b1, hb1⟩ : ∃ b : Ob, b = .box [.val (.int .i64 0), .val (.int .i64 0)] := ⟨_, rfl⟩
  obtain ⟨b4, hb4⟩ : ∃ b : Ob, b = .box [.iter 2, .iter 3, .val (.bool false), .val (.int .i64 0)] := ⟨_, rfl⟩
  obtain ⟨b5, hb5⟩ : ∃ b : Ob, b = .box [.box 4 0, .val (.int .i64 k), .val (.slice none 0 0), .val (.int .i64 0)] := ⟨_, rfl⟩
  obtain ⟨g1, hg1⟩ : ∃ g1, g1 = g.new w [] := ⟨_, rfl⟩
  obtain ⟨g2, hg2⟩ : ∃ g2, g2 = g1.new W1 [b0] := ⟨_, rfl⟩
  obtain ⟨g3, hg3⟩ : ∃ g3, g3 = g2.new W2 [b0, b1] := ⟨_, rfl⟩
  obtain ⟨g4, hg4⟩ : ∃ g4, g4 = g3.new W3 [b0, b1, .iter (.map [])] := ⟨_, rfl⟩
  obtain ⟨g5, hg5⟩ : ∃ g5, g5 = g4.new W4 [b0, b1, .iter (.map []), .iter (.map [])] := ⟨_, rfl⟩
  obtain ⟨g6, hg6⟩ : ∃ g6, g6 = g5.new W5 [b0, b1, .iter (.map []), .iter (.map []), b4] := ⟨_, rfl⟩
  have noC : ∀ {o : Ob} {cs : List AV}, (∃ y, o = .iter y) → o ≠ .box cs := fun ⟨y, h⟩ h2 => by rw [h] at h2; cases h2
  have M1 : Mem W1 g1 [b0] := by
    rw [hW1, hg1, hb0]
    exact M.new _ _ (fun cs h => by cases h; exact ⟨_, _, rfl, zero_rel (zs := [.pointer none]) rfl⟩) (fun cs h => by cases h) (fun y h => by cases h) (fun et sz fz e xs h => by cases h)
  have M2 : Mem W2 g2 [b0, b1] := by
    rw [hW2, hg2, hb1]
    exact M1.new _ _ (fun cs h => by cases h; exact ⟨_, _, rfl, zero_rel (zs := [.int .i64 0, .int .i64 0]) rfl⟩) (fun cs h => by cases h) (fun y h => by cases h) (fun et sz fz e xs h => by cases h)
  have M3 : Mem W3 g3 [b0, b1, .iter (.map [])] := by
    rw [hW3, hg3]
    exact M2.new _ _ (fun cs h => by cases h) (fun cs h => by cases h) (fun y h => by cases h; exact ⟨#[], 0, rfl, rfl, fun j e q h => by simp at h⟩) (fun et sz fz e xs h => by cases h)
  have M4 : Mem W4 g4 [b0, b1, .iter (.map []), .iter (.map [])] := by
    rw [hW4, hg4]
    exact M3.new _ _ (fun cs h => by cases h) (fun cs h => by cases h) (fun y h => by cases h; exact ⟨#[], 0, rfl, rfl, fun j e q h => by simp at h⟩) (fun et sz fz e xs h => by cases h)
  have l2 : g4.loc 2 = w.heap.size + 1 + 1 := by rw [hg4, hg3]; simp [Gh.new, s2]
  have l3 : g4.loc 3 = w.heap.size + 1 + 1 + 1 := by rw [hg4]; simp [Gh.new, s3]
  have M5 : Mem W5 g5 [b0, b1, .iter (.map []), .iter (.map []), b4] := by
    rw [hW5, hg5, hb4]
    refine M4.new _ _ (fun cs h => ?_) (fun cs h => by cases h) (fun y h => by cases h) (fun et sz fz e xs h => by cases h)
    cases h
    refine ⟨_, _, rfl, rfl, fun j v u hv hu => ?_⟩
    match j, hv, hu with
    | 0, hv, hu => cases hv; cases hu; exact ⟨⟨true, by rw [l2]; rfl, rfl⟩, rfl⟩
    | 1, hv, hu => cases hv; cases hu; exact ⟨⟨true, by rw [l3]; rfl, rfl⟩, rfl⟩
    | 2, hv, hu => cases hv; cases hu; exact ⟨PRel.val _ rfl, rfl⟩
    | 3, hv, hu => cases hv; cases hu; exact ⟨PRel.val _ rfl, rfl⟩
    | j + 4, hv, hu => simp at hv
  have l4 : g5.loc 4 = w.heap.size + 1 + 1 + 1 + 1 := by rw [hg5]; simp [Gh.new, s4]
  have M6 : Mem W6 g6 [b0, b1, .iter (.map []), .iter (.map []), b4, b5] := by
    rw [hW6, hg6, hb5]
    refine M5.new _ _ (fun cs h => ?_) (fun cs h => by cases h) (fun y h => by cases h) (fun et sz fz e xs h => by cases h)
    cases h
    refine ⟨_, _, rfl, rfl, fun j v u hv hu => ?_⟩
    match j, hv, hu with
    | 0, hv, hu => cases hv; cases hu; exact ⟨⟨by rw [l4], by rw [hb4]; trivial⟩, rfl⟩
    | 1, hv, hu => cases hv; cases hu; exact ⟨PRel.val _ rfl, rfl⟩
    | 2, hv, hu => cases hv; cases hu; exact ⟨PRel.val _ rfl, rfl⟩
    | 3, hv, hu => cases hv; cases hu; exact ⟨PRel.val _ rfl, rfl⟩
    | j + 4, hv, hu => simp at hv
  have k0 : g6.loc 0 = w.heap.size := by rw [hg6, hg5, hg4, hg3, hg2, hg1]; simp [Gh.new]
  have k1 : g6.loc 1 = w.heap.size + 1 := by rw [hg6, hg5, hg4, hg3, hg2]; simp [Gh.new, s1]
  have k4 : g6.loc 4 = w.heap.size + 1 + 1 + 1 + 1 := by rw [hg6]; simp [Gh.new, l4]
  have k5 : g6.loc 5 = w.heap.size + 1 + 1 + 1 + 1 + 1 := by rw [hg6]; simp [Gh.new, s5]
  have S6 : Step w g [] W6 g6 [b0, b1, .iter (.map []), .iter (.map []), b4, b5] := by
    have t1 : Step w g [] W1 g1 [b0] := by rw [hW1, hg1]; exact Step.new M _ _
    have t2 : Step W1 g1 [b0] W2 g2 [b0, b1] := by rw [hW2, hg2]; exact Step.new M1 _ _
    have t3 : Step W2 g2 [b0, b1] W3 g3 [b0, b1, .iter (.map [])] := by rw [hW3, hg3]; exact Step.new M2 _ _
    have t4 : Step W3 g3 [b0, b1, .iter (.map [])] W4 g4 [b0, b1, .iter (.map []), .iter (.map [])] := by rw [hW4, hg4]; exact Step.new M3 _ _
    have t5 : Step W4 g4 [b0, b1, .iter (.map []), .iter (.map [])] W5 g5 [b0, b1, .iter (.map []), .iter (.map []), b4] := by rw [hW5, hg5]; exact Step.new M4 _ _
    have t6 : Step W5 g5 [b0, b1, .iter (.map []), .iter (.map []), b4] W6 g6 [b0, b1, .iter (.map []), .iter (.map []), b4, b5] := by rw [hW6, hg6]; exact Step.new M5 _ _
    exact t1.trans (t2.trans (t3.trans (t4.trans (t5.trans t6))))
  have h1' : ARel1 W6 g6 [b0, b1, .iter (.map []), .iter (.map []), b4, b5] (.slice A l.length c) (.slc 1 (runesA l)) := h1.ext S6.ext
  have hL6 : ARelL W6 g6 [b0, b1, .iter (.map []), .iter (.map []), b4, b5] [.pointer (some ⟨w.heap.size + 1 + 1 + 1 + 1 + 1, 0, none⟩), .slice A l.length c, .int .i64 f, .int .i64 n, .bool true] [.box 5 0, .slc 1 (runesA l), .val (.int .i64 f), .val (.int .i64 n), .val (.bool true)] :=
    argL_cons ⟨by rw [k5], by rw [hb5]; trivial⟩ (argL_cons h1' (argL_cons (PRel.val _ rfl) (argL_cons (PRel.val _ rfl) (argL_cons (PRel.val _ rfl) argL_nil))))
  have cF : BCall Tryz.prog 72 [.box 5 0, .slc 1 (runesA l), .val (.int .i64 f), .val (.int .i64 n), .val (.bool true)] [b0, b1, .iter (.map []), .iter (.map []), b4, b5] (outA [b0, b1, .iter (.map []), .iter (.map []), b4, b5] [5, 4, 2, 3] (.tup [])) (back [b0, b1, .iter (.map []), .iter (.map []), b4, b5] [5, 4, 2, 3] OB') := by
    rw [hb0, hb1, hb4, hb5]
    exact BCall.frame [5, 4, 2, 3] rfl rfl h4 cI
  rw [hb0, hb1, hb4, hb5] at cF
  rw [h7, ← hb0, ← hb1, ← hb4, ← hb5] at cF
  have cC := cF.2 W6 g6 _ M6 hL6
  have hsl := h1
  clear M1 M2 M3 M4 M5 cI cF h7
  go_enter_defers Tryz.func50, Tryz.ntmps50
  go_wp2
  rw [run_makeMap]
  simp only [Result.andThen]
  rw [Oper.upon_value]
  go_wp2
  rw [run_makeMap]
  simp only [Result.andThen]
  rw [Oper.upon_value]
  go_wp2_with (go_at_call 72; rw [← hW1, ← hW2, ← hW3, ← hW4, ← hW5, ← hW6]; refine cC.mono ?_)
  rintro e w' ⟨v, g7, rfl, M7, R7, S7⟩
  have e0 : g7.loc 0 = w.heap.size := by rw [S7.ext.loc 0 (by simp)]; exact k0
  have e1 : g7.loc 1 = w.heap.size + 1 := by rw [S7.ext.loc 1 (by simp)]; exact k1
  have e4 : g7.loc 4 = w.heap.size + 1 + 1 + 1 + 1 := by rw [S7.ext.loc 4 (by simp)]; exact k4
  have e5 : g7.loc 5 = w.heap.size + 1 + 1 + 1 + 1 + 1 := by rw [S7.ext.loc 5 (by simp)]; exact k5
  obtain ⟨_, c0, T0, z0, r0⟩ := M7.box 0 [.val (.pointer none)] (by rw [hb0]; rfl)
  obtain ⟨_, c1, T1, z1, r1⟩ := M7.box 1 [.val (.int .i64 0), .val (.int .i64 0)] (by rw [hb1]; rfl)
  obtain ⟨_, c5, T5, z5, r5⟩ := M7.box 5 _ rfl
  rw [e0] at z0
  rw [e1] at z1
  rw [e5] at z5
  obtain ⟨x0, hx0⟩ : ∃ x, c0.toList = [x] := List.length_eq_one_iff.1 r0.1
  obtain ⟨x1, x2, hx1⟩ : ∃ x y, c1.toList = [x, y] := by
    have := r1.1
    match c1.toList, this with
    | [a, b], _ => exact ⟨a, b, rfl⟩
  have hc0 : w'.cell? ⟨w.heap.size, 0, none⟩ = some x0 ∧ w'.frozen? ⟨w.heap.size, 0, none⟩ = false := by
    have : c0[0]? = some x0 := by rw [← Array.getElem?_toList, hx0]; rfl
    exact ⟨by simp [World.cell?, z0, this], by simp [World.frozen?, z0]⟩
  have hc1 : w'.cell? ⟨w.heap.size + 1, 0, none⟩ = some x1 ∧ w'.frozen? ⟨w.heap.size + 1, 0, none⟩ = false := by
    have : c1[0]? = some x1 := by rw [← Array.getElem?_toList, hx1]; rfl
    exact ⟨by simp [World.cell?, z1, this], by simp [World.frozen?, z1]⟩
  have hc2 : w'.cell? ⟨w.heap.size + 1, 1, none⟩ = some x2 ∧ w'.frozen? ⟨w.heap.size + 1, 1, none⟩ = false := by
    have : c1[1]? = some x2 := by rw [← Array.getElem?_toList, hx1]; rfl
    exact ⟨by simp [World.cell?, z1, this], by simp [World.frozen?, z1]⟩
  have hc5 : w'.cell? ⟨w.heap.size + 1 + 1 + 1 + 1 + 1, 0, none⟩ = some (.pointer (some ⟨w.heap.size + 1 + 1 + 1 + 1, 0, none⟩)) := by
    have hlt : 0 < c5.size := by have := r5.1; simp at this; omega
    have h5 := (r5.2 0 c5[0] (.box 4 0) (by simp [hlt]) rfl).1
    have h6 : c5[0] = .pointer (some ⟨g7.loc 4, 0, none⟩) := h5.1
    rw [e4] at h6
    simp [World.cell?, z5, hlt, h6]
  obtain ⟨hc0, hf0⟩ := hc0
  obtain ⟨hc1, hf1⟩ := hc1
  obtain ⟨hc2, hf2⟩ := hc2
  go_wp2
  obtain ⟨W7, hW7⟩ : ∃ W, W = ((w'.setCell ⟨w.heap.size, 0, none⟩ (.pointer (some ⟨w.heap.size + 1 + 1 + 1 + 1, 0, none⟩))).setCell ⟨w.heap.size + 1, 0, none⟩ (.int .i64 0)).setCell ⟨w.heap.size + 1, 1, none⟩ (.int .i64 0) := ⟨_, rfl⟩
  rw [← hW7]
  have hWs : W7 = (w'.setCells (g7.loc 0) 0 [.pointer (some ⟨w.heap.size + 1 + 1 + 1 + 1, 0, none⟩)]).setCells (g7.loc 1) 0 [.int .i64 0, .int .i64 0] := by rw [hW7, e0, e1]; rfl
  have hb80 : (b0 :: b1 :: o2 :: o3 :: o4 :: Ob.box (.box 4 0 :: cs5) :: rest)[0]? = some (.box [.val (.pointer none)]) := by rw [hb0]; rfl
  have M8 := M7.store hb80 (off := 0) (vs := [.pointer (some ⟨w.heap.size + 1 + 1 + 1 + 1, 0, none⟩)]) (us := [.box 4 0]) ⟨rfl, fun j v u hv hu => by
    match j, hv, hu with
    | 0, hv, hu => cases hv; cases hu; exact ⟨⟨by rw [e4], hbx⟩, rfl⟩
    | j + 1, hv, hu => simp at hv⟩ (Nat.le_refl 1)
  have S8 := Step.store M7 hb80 0 [.pointer (some ⟨w.heap.size + 1 + 1 + 1 + 1, 0, none⟩)] (setCells [.val (.pointer none)] 0 [.box 4 0])
  have ee : (b0 :: b1 :: o2 :: o3 :: o4 :: Ob.box (.box 4 0 :: cs5) :: rest).set 0 (.box (setCells [.val (.pointer none)] 0 [.box 4 0])) = (.box [.box 4 0] :: b1 :: o2 :: o3 :: o4 :: Ob.box (.box 4 0 :: cs5) :: rest) := rfl
  rw [ee] at M8 S8
  have hb81 : (Ob.box [.box 4 0] :: b1 :: o2 :: o3 :: o4 :: Ob.box (.box 4 0 :: cs5) :: rest)[1]? = some (.box [.val (.int .i64 0), .val (.int .i64 0)]) := by rw [hb1]; rfl
  have M9 := M8.store hb81 (off := 0) (vs := [.int .i64 0, .int .i64 0]) (us := [.val (.int .i64 0), .val (.int .i64 0)]) (zero_rel (zs := [.int .i64 0, .int .i64 0]) rfl) (Nat.le_refl 2)
  have S9 := Step.store M8 hb81 0 [.int .i64 0, .int .i64 0] (setCells [.val (.int .i64 0), .val (.int .i64 0)] 0 [.val (.int .i64 0), .val (.int .i64 0)])
  have ee : (Ob.box [.box 4 0] :: b1 :: o2 :: o3 :: o4 :: Ob.box (.box 4 0 :: cs5) :: rest).set 1 (.box (setCells [.val (.int .i64 0), .val (.int .i64 0)] 0 [.val (.int .i64 0), .val (.int .i64 0)])) = (.box [.box 4 0] :: .box [.val (.int .i64 0), .val (.int .i64 0)] :: o2 :: o3 :: o4 :: Ob.box (.box 4 0 :: cs5) :: rest) := rfl
  rw [ee] at M9 S9
  rw [← hWs] at M9 S9
  have ST := S6.trans (S7.trans (S8.trans S9))
  obtain ⟨_, d0, T0', y0, q0⟩ := M9.box 0 _ rfl
  obtain ⟨_, d1, T1', y1, q1⟩ := M9.box 1 _ rfl
  rw [e0] at y0
  rw [e1] at y1
  have hd0 : d0[0]? = some (.pointer (some ⟨w.heap.size + 1 + 1 + 1 + 1, 0, none⟩)) := by
    have hlt : 0 < d0.size := by have := q0.1; simp at this; omega
    have h6 : d0[0] = .pointer (some ⟨g7.loc 4, 0, none⟩) := (q0.2 0 d0[0] (.box 4 0) (by simp [hlt]) rfl).1.1
    rw [e4] at h6
    simp [hlt, h6]
  have hd1 : d1 = #[.int .i64 0, .int .i64 0] := by
    apply Array.toList_inj.1
    have hq := q1.1
    match hm : d1.toList, hq with
    | [a, b], _ =>
      have ha := (q1.2 0 a _ (by rw [hm]; rfl) rfl).1
      have hb := (q1.2 1 b _ (by rw [hm]; rfl) rfl).1
      have ha : PRel W7 g7.A a (.val (.int .i64 0)) := ha
      have hb : PRel W7 g7.A b (.val (.int .i64 0)) := hb
      cases ha; cases hb; rfl
  have hl0 : Sem.run Tryz.prog (loadVar 36 ⟨w.heap.size, 0, none⟩) W7 = .ok (.pointer (some ⟨w.heap.size + 1 + 1 + 1 + 1, 0, none⟩)) W7 := by
    simp [go_sem, World.cell?, y0, hd0]
  have hl1 : Sem.run Tryz.prog (loadVar 58 ⟨w.heap.size + 1, 0, none⟩) W7 = .ok (.agg #[.int .i64 0, .int .i64 0]) W7 := by
    rw [hd1] at y1
    exact run_loadVar_row (P := Tryz.prog) W7 _ _ 58 #[.int .i64 0, .int .i64 0] (0, 0) _ y1 rfl rfl rfl
  have ha : ∀ q : Addr, Sem.run Tryz.prog (asAddr (Value.pointer (some q))) W7 = .ok q W7 := fun _ => rfl
  refine leaves_cons (f := 71) (args := #[.pointer (some ⟨w.heap.size, 0, none⟩), .pointer (some ⟨w.heap.size + 1, 0, none⟩)]) (by simp) (by simp [go_sem]) ?_
  refine (build1_idle ⟨w.heap.size, 0, none⟩ ⟨w.heap.size + 1, 0, none⟩ W7).mono ?_
  rintro e u' w'' ⟨rfl, rfl, rfl⟩
  obtain ⟨g8, N1, N2, N3⟩ := (finF_ok (k := 0) (e := .ret) hF).out M9 (v := .tuple #[.pointer (some ⟨w.heap.size + 1 + 1 + 1 + 1, 0, none⟩), .agg #[.int .i64 0, .int .i64 0]]) ⟨_, rfl, rfl, fun j y u hy hu => by
    match j, hy, hu with
    | 0, hy, hu => cases hy; cases hu; exact ⟨by rw [e4]; rfl, hbx⟩
    | 1, hy, hu => cases hy; cases hu; exact ⟨_, rfl, zero_rel (zs := [.int .i64 0, .int .i64 0]) rfl⟩
    | j + 2, hy, hu => simp at hy⟩ ST
  refine ⟨.tuple #[.pointer (some ⟨w.heap.size + 1 + 1 + 1 + 1, 0, none⟩), .agg #[.int .i64 0, .int .i64 0]], ?_, _, g8, rfl, N1, N2, N3⟩
  simp [results, Tryz.results50, hl0, hl1, ha]
end Go.Proofs.YtlnojpllgclgfaaGreat
namespace Go.Proofs.YtlnojpllgclgfaaGreat
open Go.RowKit Go.Lib
theorem keyDtd : KeyOk Tryz.prog 79 [.int .i64, .str] := KeyOk.plan tyOk (by kernel_rfl) (by kernel_rfl) (by kernel_rfl) (by kernel_rfl) (by kernel_rfl) (by kernel_rfl)
theorem eqDtd : EqOk Tryz.prog 79 [.int .i64, .str] := EqOk.plan tyOk (by kernel_rfl) (by kernel_rfl) (by kernel_rfl) (by kernel_rfl)
theorem keyWr : KeyOk Tryz.prog 58 [.int .i64, .int .i64] := KeyOk.plan tyOk (by kernel_rfl) (by kernel_rfl) (by kernel_rfl) (by kernel_rfl) (by kernel_rfl) (by kernel_rfl)
theorem eqWr : EqOk Tryz.prog 58 [.int .i64, .int .i64] := EqOk.plan tyOk (by kernel_rfl) (by kernel_rfl) (by kernel_rfl) (by kernel_rfl)
def askD (T : Nat) (sh : List Srt) : Bool := match T, sh with
  | 79, [.int .i64, .str] => true
  | 58, [.int .i64, .int .i64] => true
  | _, _ => false
theorem askD_ok : ∀ T sh, askD T sh = true → EqOk Tryz.prog T sh ∧ KeyOk Tryz.prog T sh := fun T sh h => by
  unfold askD at h
  split at h
  · exact ⟨eqDtd, keyDtd⟩
  · exact ⟨eqWr, keyWr⟩
  · cases h
noncomputable def Hc_tab : List (Nat × FnI) := [
  (33, ⟨Tryz.f33, Tryz.f33.body.getD .skip, fun _ => .nil⟩),
  (62, ⟨Tryz.f62, Tryz.f62.body.getD .skip, fun _ => .nil⟩),
  (108, ⟨Tryz.f108, Tryz.f108.body.getD .skip, fun _ => .nil⟩),
  (146, ⟨Tryz.f146, Tryz.f146.body.getD .skip, fun _ => .nil⟩),
  (51, ⟨Tryz.f51, Tryz.f51.body.getD .skip, fun _ => .nil⟩),
  (73, ⟨Tryz.f73, Tryz.f73.body.getD .skip, fun _ => .nil⟩),
  (72, ⟨Tryz.f72, Tryz.f72.body.getD .skip, fun _ => .nil⟩),
  (87, ⟨Tryz.f87, Tryz.f87.body.getD .skip, fun _ => .nil⟩),
  (109, ⟨Tryz.f109, Tryz.f109.body.getD .skip, fun _ => .nil⟩),
  (130, ⟨Tryz.f130, Tryz.f130.body.getD .skip, fun _ => .nil⟩),
  (131, ⟨Tryz.f131, Tryz.f131.body.getD .skip, fun _ => .nil⟩),
  (88, ⟨Tryz.f88, Tryz.f88.body.getD .skip, fun _ => .nil⟩),
  (89, ⟨Tryz.f89, Tryz.f89.body.getD .skip, fun _ => .nil⟩),
  (110, ⟨Tryz.f110, Tryz.f110.body.getD .skip, fun _ => .nil⟩),
  (90, ⟨Tryz.f90, Tryz.f90.body.getD .skip, fun id => match id with | 7 => .th [0, 1, 2, 7, 9, 10] (.fork (.th [3, 4, 5] (.fork (.th [6] (.fork (.of [8, 11, 12, 13]) (.th [11] (.fork (.of [8, 12, 13]) (.of [12, 8, 13]))))) (.fork (.th [8] (.fork (.of [6, 11, 12, 13]) (.th [11] (.fork (.of [6, 12, 13]) (.of [12, 6, 13]))))) (.th [11] (.fork (.th [6] (.fork (.of [8, 12, 13]) (.of [12, 8, 13]))) (.fork (.th [8] (.fork (.of [6, 12, 13]) (.of [12, 6, 13]))) (.of [12, 6, 8, 13]))))))) (.fork (.th [8] (.fork (.th [3, 4, 5] (.fork (.of [6, 11, 12, 13]) (.th [11] (.fork (.of [6, 12, 13]) (.of [12, 6, 13]))))) (.th [11] (.fork (.th [3, 4, 5] (.fork (.of [6, 12, 13]) (.of [12, 6, 13]))) (.of [12, 3, 4, 5, 6, 13]))))) (.th [11] (.fork (.th [3, 4, 5] (.fork (.th [6] (.fork (.of [8, 12, 13]) (.of [12, 8, 13]))) (.fork (.th [8] (.fork (.of [6, 12, 13]) (.of [12, 6, 13]))) (.of [12, 6, 8, 13])))) (.fork (.th [8] (.fork (.th [3, 4, 5] (.fork (.of [6, 12, 13]) (.of [12, 6, 13]))) (.of [12, 3, 4, 5, 6, 13]))) (.of [12, 3, 4, 5, 6, 8, 13])))))) | 10 => .th [0, 1, 2, 3, 4, 5, 6, 7] (.fork (.of [8, 9, 10, 11, 12, 13, 14]) (.of [12, 8, 9, 10, 11, 13, 14])) | _ => .nil⟩),
  (91, ⟨Tryz.f91, Tryz.f91.body.getD .skip, fun _ => .nil⟩)]
theorem Hc_tab_ok : GoodL Hc_tab := by
  unfold Hc_tab
  refine ⟨⟨Nat.le_of_ble_eq_true rfl, Tryz.func33, rfl, by kernel_rfl⟩, ?_⟩
  refine ⟨⟨Nat.le_of_ble_eq_true rfl, Tryz.func62, rfl, by kernel_rfl⟩, ?_⟩
  refine ⟨⟨Nat.le_of_ble_eq_true rfl, Tryz.func108, rfl, by kernel_rfl⟩, ?_⟩
  refine ⟨⟨Nat.le_of_ble_eq_true rfl, Tryz.func146, rfl, by kernel_rfl⟩, ?_⟩
  refine ⟨⟨Nat.le_of_ble_eq_true rfl, Tryz.func51, rfl, by kernel_rfl⟩, ?_⟩
  refine ⟨⟨Nat.le_of_ble_eq_true rfl, Tryz.func73, rfl, by kernel_rfl⟩, ?_⟩
  refine ⟨⟨Nat.le_of_ble_eq_true rfl, Tryz.func72, rfl, by kernel_rfl⟩, ?_⟩
  refine ⟨⟨Nat.le_of_ble_eq_true rfl, Tryz.func87, rfl, by kernel_rfl⟩, ?_⟩
  refine ⟨⟨Nat.le_of_ble_eq_true rfl, Tryz.func109, rfl, by kernel_rfl⟩, ?_⟩
  refine ⟨⟨Nat.le_of_ble_eq_true rfl, Tryz.func130, rfl, by kernel_rfl⟩, ?_⟩
  refine ⟨⟨Nat.le_of_ble_eq_true rfl, Tryz.func131, rfl, by kernel_rfl⟩, ?_⟩
  refine ⟨⟨Nat.le_of_ble_eq_true rfl, Tryz.func88, rfl, by kernel_rfl⟩, ?_⟩
  refine ⟨⟨Nat.le_of_ble_eq_true rfl, Tryz.func89, rfl, by kernel_rfl⟩, ?_⟩
  refine ⟨⟨Nat.le_of_ble_eq_true rfl, Tryz.func110, rfl, by kernel_rfl⟩, ?_⟩
  refine ⟨⟨Nat.le_of_ble_eq_true rfl, Tryz.func90, rfl, by kernel_rfl⟩, ?_⟩
  refine ⟨⟨Nat.le_of_ble_eq_true rfl, Tryz.func91, rfl, by kernel_rfl⟩, ?_⟩
  exact trivial
def Hc_bl : List BE := [⟨110, [.slc 1 (runesA exD1)], [], .tup [.agg exV1, .val (.bool true)], []⟩, ⟨110, [.slc 1 (runesA exD2)], [], .tup [.agg exV2, .val (.bool true)], []⟩, ⟨110, [.slc 1 (runesA exD3)], [], .tup [.agg exV3, .val (.bool true)], []⟩]
theorem Hc_bok : GoodB Hc_bl := by
  unfold Hc_bl
  exact ⟨⟨rfl, readD1⟩, ⟨rfl, readD2⟩, ⟨rfl, readD3⟩, trivial⟩
def keyA (k : Int) (c : UInt8) : AV := .agg [.val (.int .i64 k), .val (.string ⟨⟨[c]⟩⟩)]
def exD0 : List Int := [60, 33, 69, 78, 84, 73, 84, 89, 32, 37, 32, 112, 32, 34, 60, 33, 69, 78, 84, 73, 84, 89, 32, 101, 32, 39, 120, 39, 62, 34, 62, 37, 112, 59]
theorem items0 : BCall Tryz.prog 72 [.box 0 0, .slc 1 (runesA exD0), .val (.int .i64 0), .val (.int .i64 34), .val (.bool true)] [.box [.box 1 0, .val (.int .i64 100), .val (.slice none 0 0), .val (.int .i64 0)], .box [.iter 2, .iter 3, .val (.bool false), .val (.int .i64 0)], .iter (.map []), .iter (.map [])] (.tup []) [.box [.box 1 0, .val (.int .i64 100), .row 4 2, .val (.int .i64 31)], .box [.iter 2, .iter 3, .val (.bool false), .val (.int .i64 15)], .iter (.map [(keyA 2 112, .agg exV1), (keyA 1 101, .agg exV2)]), .iter (.map []), .row 9 1 false 2 []] :=
  (run_ok (lf := 100) (tab_ok Hc_tab_ok) (base2_ok Hc_bok) (ask := askD) askD_ok 60 _ _ _ _ _ (by kernel_rfl)).2
theorem build0 : BCall Tryz.prog 50 [.slc 1 (runesA exD0), .val (.int .i64 0), .val (.int .i64 34), .val (.int .i64 100)] [] (.tup [.box 0 0, .agg [.val (.int .i64 0), .val (.int .i64 0)]]) [.box [.iter 1, .iter 2, .val (.bool false), .val (.int .i64 15)], .iter (.map [(keyA 2 112, .agg exV1), (keyA 1 101, .agg exV2)]), .iter (.map [])] :=
  Build_b exD0 0 34 100 (fun _ _ _ => rfl) _ _ _ _ _ _ _ _ items0 (by decide) rfl (by kernel_rfl) trivial
end Go.Proofs.YtlnojpllgclgfaaGreat
namespace Go.Proofs.YtlnojpllgclgfaaGreat
open Go.RowKit Go.Lib
noncomputable def Hd_tab : List (Nat × FnI) := [
  (57, ⟨Tryz.f57, Tryz.f57.body.getD .skip, fun _ => .nil⟩),
  (11, ⟨Tryz.f11, Tryz.f11.body.getD .skip, fun _ => .nil⟩),
  (49, ⟨Tryz.f49, Tryz.f49.body.getD .skip, fun _ => .nil⟩),
  (50, ⟨Tryz.f50, Tryz.f50.body.getD .skip, fun _ => .nil⟩),
  (20, ⟨Tryz.f20, Tryz.f20.body.getD .skip, fun _ => .nil⟩),
  (55, ⟨Tryz.f55, Tryz.f55.body.getD .skip, fun _ => .nil⟩),
  (27, ⟨Tryz.f27, Tryz.f27.body.getD .skip, fun _ => .nil⟩)]
theorem Hd_tab_ok : GoodL Hd_tab := by
  unfold Hd_tab
  refine ⟨⟨Nat.le_of_ble_eq_true rfl, Tryz.func57, rfl, by kernel_rfl⟩, ?_⟩
  refine ⟨⟨Nat.le_of_ble_eq_true rfl, Tryz.func11, rfl, by kernel_rfl⟩, ?_⟩
  refine ⟨⟨Nat.le_of_ble_eq_true rfl, Tryz.func49, rfl, by kernel_rfl⟩, ?_⟩
  refine ⟨⟨Nat.le_of_ble_eq_true rfl, Tryz.func50, rfl, by kernel_rfl⟩, ?_⟩
  refine ⟨⟨Nat.le_of_ble_eq_true rfl, Tryz.func20, rfl, by kernel_rfl⟩, ?_⟩
  refine ⟨⟨Nat.le_of_ble_eq_true rfl, Tryz.func55, rfl, by kernel_rfl⟩, ?_⟩
  refine ⟨⟨Nat.le_of_ble_eq_true rfl, Tryz.func27, rfl, by kernel_rfl⟩, ?_⟩
  exact trivial
def Hd_bl : List BE := [⟨50, [.slc 1 (runesA exD0), .val (.int .i64 0), .val (.int .i64 34), .val (.int .i64 100)], [], .tup [.box 0 0, .agg [.val (.int .i64 0), .val (.int .i64 0)]], [.box [.iter 1, .iter 2, .val (.bool false), .val (.int .i64 15)], .iter (.map [(keyA 2 112, .agg exV1), (keyA 1 101, .agg exV2)]), .iter (.map [])]⟩]
theorem Hd_bok : GoodB Hd_bl := by
  unfold Hd_bl
  exact ⟨⟨rfl, build0⟩, trivial⟩
theorem awake16_b : BCall Tryz.prog 11 [] [] (.val (.bool true)) [] :=
  (run_ok (lf := 100) (tab_ok Hd_tab_ok) (base2_ok Hd_bok) (ask := askD) askD_ok 60 _ _ _ _ _ (by kernel_rfl)).2
end Go.Proofs.YtlnojpllgclgfaaGreat
