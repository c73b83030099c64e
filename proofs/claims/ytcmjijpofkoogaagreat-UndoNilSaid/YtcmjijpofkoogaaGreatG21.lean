/- Lemmas, conditions told -/
import Derived.Test.YtcmjijpofkoogaaGreatG20
import Derived.Test.YtcmjijpofkoogaaGreatG14
import Derived.Test.YtcmjijpofkoogaaGreatG02
import Derived.Test.YtcmjijpofkoogaaGreatG04
import Derived.Test.YtcmjijpofkoogaaGreatG01
import Derived.Test.YtcmjijpofkoogaaGreatG11
set_option linter.unusedSimpArgs false
set_option linter.unusedVariables false
namespace Go.Proofs.YtcmjijpofkoogaaGreat
open Go.RowKit Go.Lib
def elM (l : List Node) (x : Node) : Bool := decide (x.kind = 21) && decide (kindN l (x.kids.getLast?.getD (-1)) = 22)
def n01 (b : Bool) : Nat := if b then 1 else 0
def cmF (l : List Node) : Nat → Int → Nat
  | 0, _ => 0
  | f + 1, n => n01 (elM l (nodeAt l n)) + ((nodeAt l n).kids.map (cmF l f)).sum
def cm (l : List Node) (n : Int) : Nat := cmF l (n.toNat + 1) n
theorem cmF_more {l : List Node} (hw : Wf l) : ∀ (f f' : Nat) (n : Int), 0 ≤ n → n < l.length → n.toNat < f → n.toNat < f' → cmF l f n = cmF l f' n
  | 0, _, _, _, _, h, _ => by omega
  | _ + 1, 0, _, _, _, _, h => by omega
  | f + 1, f' + 1, n, h0, h1, h2, h3 => by
    simp only [cmF]
    congr 2
    refine List.map_congr_left fun k hk => ?_
    have := hw n h0 h1 k hk
    exact cmF_more hw f f' k this.1 (by omega) (by omega) (by omega)
theorem cm_eq {l : List Node} (hw : Wf l) {n : Int} (h0 : 0 ≤ n) (h1 : n < l.length) : cm l n = n01 (elM l (nodeAt l n)) + ((nodeAt l n).kids.map (cm l)).sum := by
  show cmF l (n.toNat + 1) n = _
  simp only [cmF]
  congr 2
  refine List.map_congr_left fun k hk => ?_
  have := hw n h0 h1 k hk
  exact cmF_more hw _ _ k this.1 (by omega) (by omega) (by omega)
theorem kind_old {l : List Node} {x : Node} {n : Int} (h0 : 0 ≤ n) (h1 : n < l.length) : kindN (l ++ [x]) n = kindN l n := by unfold kindN; rw [nodeAt_old h0 h1]
theorem kind_new {l : List Node} {x : Node} : kindN (l ++ [x]) l.length = x.kind := by unfold kindN; rw [nodeAt_new]
theorem kind_neg (l : List Node) : kindN l (-1) = 0 := by unfold kindN; rw [nodeAt_out (by omega)]; rfl
theorem elM_old {l : List Node} {x : Node} (hx : InR l x.kids) (z : Node) : elM (l ++ [z]) x = elM l x := by
  unfold elM
  cases h : x.kids.getLast? with
  | none => simp only [Option.getD_none, kind_neg]
  | some k =>
    have := hx k (List.mem_of_getLast? h)
    simp only [Option.getD_some, kind_old this.1 this.2]
theorem cmF_old {l : List Node} (h : Wf l) (x : Node) : ∀ (f : Nat) (n : Int), 0 ≤ n → n < l.length → cmF (l ++ [x]) f n = cmF l f n
  | 0, _, _, _ => rfl
  | f + 1, n, h0, h1 => by
    have hr : InR l (nodeAt l n).kids := fun k hk => by have := h n h0 h1 k hk; omega
    simp only [cmF, nodeAt_old h0 h1, elM_old hr]
    congr 2
    refine List.map_congr_left fun k hk => ?_
    have := hr k hk
    exact cmF_old h x f k this.1 this.2
theorem cm_old {l : List Node} (h : Wf l) (x : Node) {n : Int} (h0 : 0 ≤ n) (h1 : n < l.length) : cm (l ++ [x]) n = cm l n := cmF_old h x _ n h0 h1
def cmL (l : List Node) (ks : List Int) : Nat := (ks.map (cm l)).sum
theorem cmL_old {l : List Node} (h : Wf l) (x : Node) {ks : List Int} (hk : InR l ks) : cmL (l ++ [x]) ks = cmL l ks :=
  congrArg List.sum (List.map_congr_left fun k hk' => cm_old h x (hk k hk').1 (hk k hk').2)
theorem cm_new {l : List Node} (h : Wf l) {x : Node} (hx : InR l x.kids) : cm (l ++ [x]) l.length = n01 (elM l x) + cmL l x.kids := by
  rw [cm_eq (wf_add h hx) (by omega) (by simp only [List.length_append, List.length_singleton]; omega), nodeAt_new, elM_old hx]
  exact congrArg (n01 (elM l x) + ·) (cmL_old h x hx)
theorem cmL_app (l : List Node) (a b : List Int) : cmL l (a ++ b) = cmL l a + cmL l b := by simp [cmL]
theorem cmL_one (l : List Node) (k : Int) : cmL l [k] = cm l k := by simp [cmL]
def cmK (l : List Node) (s : List Opn) : Nat := (s.map fun x => cmL l x.kids).sum
theorem cmK_app (l : List Node) (s : List Opn) (x : Opn) : cmK l (s ++ [x]) = cmK l s + cmL l x.kids := by simp [cmK]
theorem cmK_old {l : List Node} (h : Wf l) (x : Node) {s : List Opn} (hs : ∀ y ∈ s, InR l y.kids) : cmK (l ++ [x]) s = cmK l s :=
  congrArg List.sum (List.map_congr_left fun y hy => cmL_old h x (hs y hy))
theorem elM_leaf (l : List Node) {kind : Int} (hk : kind ≠ 21) (bs : List UInt8) : elM l (leafF kind bs) = false := by
  unfold elM
  rw [decide_eq_false (show ¬ (leafF kind bs).kind = 21 from hk)]; rfl
theorem leaf_in (l : List Node) (kind : Int) (bs : List UInt8) : InR l (leafF kind bs).kids := fun k hk => by cases hk
theorem cm_leaf {l : List Node} (h : Wf l) {kind : Int} (hk : kind ≠ 21) (bs : List UInt8) : cm (l ++ [leafF kind bs]) l.length = 0 := by
  rw [cm_new h (leaf_in l kind bs), elM_leaf l hk]; rfl
def Lead (nm : List Int) : Prop := ∃ r0 rs, nm = r0 :: rs ∧ isNameStart r0 = true
def nmN (K : Int) (l : List Node) (n : Int) : List Int := nameL (runesK K (pr l n))
structure StOk (K : Int) (l : List Node) (y : Opn) (k0 : Int) (r : List Int) : Prop where
  k : y.kids = k0 :: r
  s : kindN l k0 = 8
  n : nmN K l k0 = y.name
  l : Lead y.name
structure ElIs (K : Int) (l : List Node) (ks : List Int) (k0 : Int) (r : List Int) (kl : Int) : Prop where
  k : ks = k0 :: (r ++ [kl])
  s : kindN l k0 = 8
  ld : Lead (nmN K l k0)
  e : kindN l kl = 22 ∨ (kindN l kl = 10 ∧ nmN K l kl = nmN K l k0)
def ElOk (K : Int) (l : List Node) (n : Int) : Prop := kindN l n = 21 → ∃ k0 r kl, ElIs K l (nodeAt l n).kids k0 r kl
theorem nm_old (K : Int) {l : List Node} (h : Wf l) (x : Node) {n : Int} (h0 : 0 ≤ n) (h1 : n < l.length) : nmN K (l ++ [x]) n = nmN K l n := by unfold nmN; rw [pr_old h x h0 h1]
theorem StOk.old {K : Int} {l : List Node} (h : Wf l) {y : Opn} {k0 : Int} {r : List Int} (hr : InR l y.kids) (hs : StOk K l y k0 r) (x : Node) : StOk K (l ++ [x]) y k0 r := by
  have := hr k0 (by rw [hs.k]; simp)
  exact ⟨hs.k, by rw [kind_old this.1 this.2]; exact hs.s, by rw [nm_old K h x this.1 this.2]; exact hs.n, hs.l⟩
theorem ElIs.old {K : Int} {l : List Node} (h : Wf l) {ks : List Int} {k0 : Int} {r : List Int} {kl : Int} (hr : InR l ks) (hs : ElIs K l ks k0 r kl) (x : Node) : ElIs K (l ++ [x]) ks k0 r kl := by
  have h1 := hr k0 (by rw [hs.k]; simp)
  have h2 := hr kl (by rw [hs.k]; simp)
  refine ⟨hs.k, ?_, ?_, ?_⟩
  · rw [kind_old h1.1 h1.2]; exact hs.s
  · rw [nm_old K h x h1.1 h1.2]; exact hs.ld
  · rw [kind_old h2.1 h2.2, nm_old K h x h1.1 h1.2, nm_old K h x h2.1 h2.2]; exact hs.e
theorem el_old {K : Int} {l : List Node} (h : Wf l) {n : Int} (h0 : 0 ≤ n) (h1 : n < l.length) (he : ElOk K l n) (x : Node) : ElOk K (l ++ [x]) n := fun hk => by
  rw [kind_old h0 h1] at hk
  obtain ⟨k0, r, kl, hs⟩ := he hk
  rw [nodeAt_old h0 h1]
  exact ⟨k0, r, kl, hs.old h (fun k hk => by have := h n h0 h1 k hk; omega) x⟩
theorem el_add {K : Int} {l : List Node} (h : Wf l) (he : ∀ n : Int, 0 ≤ n → n < l.length → ElOk K l n) {x : Node} (hx : ElOk K (l ++ [x]) l.length) : ∀ n : Int, 0 ≤ n → n < (l ++ [x]).length → ElOk K (l ++ [x]) n := fun n h0 h1 => by
  simp only [List.length_append, List.length_singleton] at h1
  by_cases h2 : n < l.length
  · exact el_old h h0 h2 (he n h0 h2) x
  · obtain rfl : n = l.length := by omega
    exact hx
theorem el_not {K : Int} {l : List Node} {x : Node} (hk : x.kind ≠ 21) : ElOk K (l ++ [x]) l.length := fun h => by
  rw [kind_new] at h; exact absurd h hk
theorem drop_one {s : List Opn} {x z : Opn} : z ∈ (s ++ [x]).drop 1 ↔ z ∈ s.drop 1 ∨ (s ≠ [] ∧ z = x) := by
  cases s <;> simp
structure CIn (K : Int) (m : Mk) (c : Nat) : Prop where
  el : ∀ n : Int, 0 ≤ n → n < m.n.length → ElOk K m.n n
  st : ∀ y ∈ m.s.drop 1, ∃ k0 r, StOk K m.n y k0 r
  cm : cmK m.n m.s = c
section
variable {K : Int} {m : Mk} {X : List UInt8} {B D c : Nat}
theorem CIn.wrong (h : CIn K m c) (t : Txt) (d f u : Int) : CIn K (wrongF t d f u m) c := ⟨h.el, h.st, h.cm⟩
theorem CIn.leaf (h : MkInv m X B D) (hc : CIn K m c) {kind : Int} (hk : kind ≠ 21) (bs : List UInt8) : CIn K (kidF m.n.length (addF (leafF kind bs) m)) c := by
  obtain ⟨s0, hs0⟩ := top_split h.s1
  generalize topF m.s = y at hs0
  have hr := h.rng
  have hst := hc.st
  have hcm := hc.cm
  rw [hs0] at hr hst hcm
  have hr0 : ∀ z ∈ s0, InR m.n z.kids := fun z hz => hr z (List.mem_append_left _ hz)
  have hry : InR m.n y.kids := hr y (by simp)
  refine ⟨?_, ?_, ?_⟩
  · exact el_add h.ar.wf hc.el (el_not hk)
  · show ∀ z ∈ (kidS m.n.length m.s).drop 1, ∃ k0 r, StOk K (m.n ++ [leafF kind bs]) z k0 r
    rw [hs0, kid_app]
    intro z hz
    rcases drop_one.1 hz with hz | ⟨hne, rfl⟩
    · obtain ⟨k0, r, hs⟩ := hst z (drop_one.2 (.inl hz))
      exact ⟨k0, r, hs.old h.ar.wf (hr0 z (List.mem_of_mem_drop hz)) _⟩
    · obtain ⟨k0, r, hs⟩ := hst y (drop_one.2 (.inr ⟨hne, rfl⟩))
      have hs := hs.old h.ar.wf hry (leafF kind bs)
      exact ⟨k0, r ++ [(m.n.length : Int)], by show y.kids ++ _ = _; rw [hs.k]; rfl, hs.s, hs.n, hs.l⟩
  · show cmK (m.n ++ [leafF kind bs]) (kidS m.n.length m.s) = c
    rw [cmK_app] at hcm
    rw [hs0, kid_app, cmK_app, cmL_app, cmL_one, cmK_old h.ar.wf _ hr0, cmL_old h.ar.wf _ hry, cm_leaf h.ar.wf hk]
    exact hcm
theorem CIn.push (h : MkInv m X B D) (hc : CIn K m c) (bs : List UInt8) {nm : List Int} (hn : nameL (runesK K bs) = nm) (hl : Lead nm) : CIn K (kidF m.n.length (addF (leafF 8 bs) { m with s := m.s ++ [⟨nm, []⟩] })) c := by
  have ha := (ar_leaf h.ar 8 bs)
  have hks : ∀ z ∈ m.s, InR m.n z.kids := h.rng
  refine ⟨?_, ?_, ?_⟩
  · exact el_add h.ar.wf hc.el (el_not (by show (8 : Int) ≠ 21; decide))
  · show ∀ z ∈ (kidS m.n.length (m.s ++ [⟨nm, []⟩])).drop 1, ∃ k0 r, StOk K (m.n ++ [leafF 8 bs]) z k0 r
    rw [kid_app]
    intro z hz
    rcases drop_one.1 hz with hz | ⟨hne, rfl⟩
    · obtain ⟨k0, r, hs⟩ := hc.st z hz
      exact ⟨k0, r, hs.old h.ar.wf (hks z (List.mem_of_mem_drop hz)) _⟩
    · refine ⟨m.n.length, [], rfl, kind_new, ?_, hl⟩
      unfold nmN
      rw [ha.2]; exact hn
  · show cmK (m.n ++ [leafF 8 bs]) (kidS m.n.length (m.s ++ [⟨nm, []⟩])) = c
    rw [kid_app, cmK_app, cmL_app, cmL_one, cmK_old h.ar.wf _ hks, cm_leaf h.ar.wf (by decide)]
    exact hc.cm
theorem shut_eq {s0 : List Opn} {y x : Opn} (hs1 : m.s = s0 ++ [y] ++ [x]) (kind : Int) (bs : List UInt8) :
    (shutF m.n.length (addF (leafF kind bs) m)).n = (m.n ++ [leafF kind bs]) ++ [branchF (m.n ++ [leafF kind bs]) 21 (x.kids ++ [(m.n.length : Int)])] ∧ (shutF m.n.length (addF (leafF kind bs) m)).s = s0 ++ [⟨y.name, y.kids ++ [((m.n ++ [leafF kind bs]).length : Int)]⟩] := by
  have eT : topF (kidF (m.n.length : Int) (addF (leafF kind bs) m)).s = ⟨x.name, x.kids ++ [(m.n.length : Int)]⟩ := by
    show topF (kidS m.n.length m.s) = _
    rw [hs1, kid_app, top_app]
  constructor
  · show (m.n ++ [leafF kind bs]) ++ [branchF (m.n ++ [leafF kind bs]) 21 (topF (kidF (m.n.length : Int) (addF (leafF kind bs) m)).s).kids] = _
    rw [eT]
  · show kidS ((m.n ++ [leafF kind bs]).length : Int) ((kidS m.n.length m.s).take ((kidS m.n.length m.s).length - 1)) = _
    have e2 : (kidS m.n.length m.s).take ((kidS m.n.length m.s).length - 1) = s0 ++ [y] := by
      rw [hs1, kid_app, show (s0 ++ [y] ++ [(⟨x.name, x.kids ++ [(m.n.length : Int)]⟩ : Opn)]).length - 1 = (s0 ++ [y]).length by simp]
      exact List.take_left
    rw [e2, kid_app]
theorem two_split {s : List Opn} (hs : 2 ≤ s.length) : ∃ s0 y, s = s0 ++ [y] ++ [topF s] := by
  obtain ⟨s1, hs1⟩ := top_split (s := s) (by omega)
  have hl1 : 1 ≤ s1.length := by rw [hs1] at hs; simp at hs; omega
  obtain ⟨s0, hs0⟩ := top_split hl1
  exact ⟨s0, topF s1, by rw [← hs0]; exact hs1⟩
theorem CIn.shut (h : MkInv m X B D) (hc : CIn K m c) (hs : 2 ≤ m.s.length) {kind : Int} (bs : List UInt8) (hk : kind = 22 ∨ (kind = 10 ∧ nameL (runesK K bs) = (topF m.s).name)) : CIn K (shutF m.n.length (addF (leafF kind bs) m)) (c + n01 (decide (kind = 22))) := by
  obtain ⟨s0, y, hs1⟩ := two_split hs
  generalize topF m.s = x at hs1 hk
  obtain ⟨en, es⟩ := shut_eq hs1 kind bs
  have hk21 : kind ≠ 21 := by omega
  obtain ⟨ha1, hp1⟩ := ar_leaf h.ar kind bs
  have hr := h.rng
  have hst := hc.st
  have hcm := hc.cm
  rw [hs1] at hr hst hcm
  have hr0 : ∀ z ∈ s0, InR m.n z.kids := fun z hz => hr z (List.mem_append_left _ (List.mem_append_left _ hz))
  have hry : InR m.n y.kids := hr y (List.mem_append_left _ (by simp))
  have hrx : InR m.n x.kids := hr x (by simp)
  have hks : InR (m.n ++ [leafF kind bs]) (x.kids ++ [(m.n.length : Int)]) := fun k hk => by
    rcases List.mem_append.1 hk with hk | hk
    · exact hrx.more _ k hk
    · obtain rfl : k = (m.n.length : Int) := by simpa using hk
      simp; omega
  obtain ⟨k0, r, hx⟩ := hst x (drop_one.2 (.inr ⟨by simp, rfl⟩))
  have hx1 := hx.old h.ar.wf hrx (leafF kind bs)
  obtain ⟨l1, hl⟩ : ∃ l1, l1 = m.n ++ [leafF kind bs] := ⟨_, rfl⟩
  have hl1 : ((m.n ++ [leafF kind bs]).length : Int) = l1.length := by rw [hl]
  have hel1 := el_add h.ar.wf hc.el (x := leafF kind bs) (el_not hk21)
  have hnew : kindN (m.n ++ [leafF kind bs]) m.n.length = kind := kind_new
  have hnmn : nmN K (m.n ++ [leafF kind bs]) m.n.length = nameL (runesK K bs) := by unfold nmN; rw [hp1]
  have up0 : ∀ z : Node, cmK (l1 ++ [z]) s0 = cmK m.n s0 := fun z => by
    rw [cmK_old (by rw [hl]; exact ha1.wf) z (fun q hq => by rw [hl]; exact (hr0 q hq).more _), hl, cmK_old h.ar.wf _ hr0]
  have upy : ∀ z : Node, cmL (l1 ++ [z]) y.kids = cmL m.n y.kids := fun z => by
    rw [cmL_old (by rw [hl]; exact ha1.wf) z (by rw [hl]; exact hry.more _), hl, cmL_old h.ar.wf _ hry]
  have e1 : cmL l1 (x.kids ++ [(m.n.length : Int)]) = cmL m.n x.kids := by
    rw [hl, cmL_app, cmL_one, cmL_old h.ar.wf _ hrx, cm_leaf h.ar.wf hk21]; rfl
  rw [← hl] at ha1 hks hx1 hel1 en es hnew hnmn
  obtain ⟨z, hz⟩ : ∃ z, z = branchF l1 21 (x.kids ++ [(m.n.length : Int)]) := ⟨_, rfl⟩
  rw [← hz] at en
  have hzk : z.kids = x.kids ++ [(m.n.length : Int)] := by rw [hz]; rfl
  have hzm : elM l1 z = decide (kind = 22) := by
    unfold elM
    rw [hzk, List.getLast?_concat, Option.getD_some, hnew, hz]; rfl
  refine ⟨?_, ?_, ?_⟩
  · rw [en]
    refine el_add ha1.wf hel1 (fun _ => ⟨k0, r, m.n.length, ?_⟩)
    rw [nodeAt_new, hzk]
    refine ElIs.old ha1.wf hks ⟨by rw [hx1.k]; rfl, hx1.s, ?_, ?_⟩ z
    · rw [hx1.n]; exact hx1.l
    · rw [hnew, hnmn, hx1.n]; exact hk
  · rw [en, es]
    intro q hq
    rcases drop_one.1 hq with hq | ⟨hne, rfl⟩
    · obtain ⟨q0, qr, hq1⟩ := hst q (drop_one.2 (.inl (drop_one.2 (.inl hq))))
      have hqr := hr0 q (List.mem_of_mem_drop hq)
      have hq2 := hq1.old h.ar.wf hqr (leafF kind bs)
      rw [← hl] at hq2
      exact ⟨q0, qr, hq2.old ha1.wf (by rw [hl]; exact hqr.more _) z⟩
    · obtain ⟨q0, qr, hq1⟩ := hst y (drop_one.2 (.inl (drop_one.2 (.inr ⟨hne, rfl⟩))))
      have hq2 := hq1.old h.ar.wf hry (leafF kind bs)
      rw [← hl] at hq2
      have hq3 := hq2.old ha1.wf (by rw [hl]; exact hry.more _) z
      exact ⟨q0, qr ++ [(l1.length : Int)], by show y.kids ++ _ = _; rw [hq3.k]; rfl, hq3.s, hq3.n, hq3.l⟩
  · rw [en, es, cmK_app, cmL_app, cmL_one, up0, upy, cm_new ha1.wf (by rw [hzk]; exact hks), hzm, hzk, e1]
    rw [cmK_app, cmK_app] at hcm
    omega
def told (d : List Dg) : Nat := (d.filter fun x => decide (x.c = 4)).length
theorem told_app (d : List Dg) (x : Dg) : told (d ++ [x]) = told d + n01 (decide (x.c = 4)) := by
  unfold told n01
  rw [List.filter_append, List.length_append]
  by_cases h : x.c = 4 <;> simp [h]
def sz (m : Mk) : Nat := m.n.length + 2 * m.s.length
structure CI (K : Int) (m : Mk) (S : Nat) : Prop where
  c : CIn K m (told m.d)
  z : 2 * sz m ≤ S
theorem CI.wrong {S : Nat} (h : CI K m S) (t : Txt) {d f u : Int} (hd : d ≠ 4) : CI K (wrongF t d f u m) S := by
  refine ⟨?_, h.z⟩
  have : told (wrongF t d f u m).d = told m.d := by
    show told (m.d ++ [_]) = _
    rw [told_app, decide_eq_false (show ¬ d = 4 from hd)]; rfl
  rw [this]
  exact h.c.wrong t d f u
theorem CI.lk {S : Nat} (h : MkI m X B D) (hc : CI K m S) (t : Txt) (b : List UInt8) {kind : Int} (hk : kind ≠ 21) (f u : Int) : CI K (lkF t b kind f u m) (S + 2) := by
  refine ⟨hc.c.leaf h.i hk _, ?_⟩
  have := hc.z
  show 2 * ((m.n ++ [_]).length + 2 * (kidS _ m.s).length) ≤ _
  unfold sz at this
  rw [kidS_len]
  simp only [List.length_append, List.length_singleton]
  omega
theorem sz_shut (last : Int) (hs : 1 ≤ m.s.length) (kind : Int) (bs : List UInt8) : sz (shutF last (addF (leafF kind bs) m)) = sz m := by
  have e1 : (shutF last (addF (leafF kind bs) m)).s.length = m.s.length - 1 := by
    show (kidS _ ((kidS _ m.s).take ((kidS _ m.s).length - 1))).length = _
    rw [kidS_len, List.length_take, kidS_len]; omega
  have e2 : (shutF last (addF (leafF kind bs) m)).n.length = m.n.length + 2 := by
    show ((m.n ++ [_]) ++ [_]).length = _
    simp
  unfold sz
  omega
theorem CI.miss {S : Nat} (h : MkI m X B D) (hc : CI K m S) (hs : 2 ≤ m.s.length) (t : Txt) (a : Int) : CI K (missF t a m) S := by
  refine ⟨?_, ?_⟩
  · have h2 := CIn.shut (h.wrong t 4 a a).i (hc.c.wrong t 4 a a) hs (kind := 22) [] (.inl rfl)
    have : told (missF t a m).d = told m.d + 1 := by
      show told (m.d ++ [_]) = _
      rw [told_app]; rfl
    rw [this]
    exact h2
  · have : sz (missF t a m) = sz m := sz_shut _ (by show 1 ≤ m.s.length; omega) 22 []
    rw [this]; exact hc.z
theorem miss_names (t : Txt) (a : Int) (hs : 2 ≤ m.s.length) : (missF t a m).s.map Opn.name <+: m.s.map Opn.name := by
  obtain ⟨s0, y, hs1⟩ := two_split hs
  have e := (shut_eq (m := wrongF t 4 a a m) (s0 := s0) (y := y) (x := topF m.s) hs1 22 []).2
  have e : (missF t a m).s = _ := e
  rw [e, hs1]
  exact ⟨[(topF m.s).name], by simp⟩
end
theorem CI.missGo {K : Int} (t : Txt) (f : Int) (k : Nat) {X : List UInt8} {B D S : Nat} : ∀ (n : Nat) (m : Mk), MkI m X B D → CI K m S → k + 1 ≤ m.s.length → m.s.length ≤ n + k + 1 → CI K (missGo t f k n m) S ∧ (Go.Proofs.YtcmjijpofkoogaaGreat.missGo t f k n m).s.map Opn.name <+: m.s.map Opn.name
  | 0, m, _, hc, _, _ => ⟨hc, List.prefix_refl _⟩
  | n + 1, m, h, hc, h1, h2 => by
    show CI K (if _ then _ else _) S ∧ (if _ then _ else _ : Mk).s.map Opn.name <+: _
    split
    · have h3 := inv_miss h.i (by omega) t f
      have ih := CI.missGo t f k n _ (h.miss (by omega) t f) (hc.miss h (by omega) t f) (by omega) (by omega)
      exact ⟨ih.1, ih.2.trans (miss_names t f (by omega))⟩
    · exact ⟨hc, List.prefix_refl _⟩
theorem opnFind_name (s : List Opn) (nm : List Int) : ∀ k, opnFind s nm k ≠ 0 → (s[opnFind s nm k]?.getD ⟨[], []⟩).name = nm
  | 0, h => absurd rfl h
  | k + 1, h => by
    unfold opnFind at h ⊢
    split at h
    · rename_i h1
      rw [if_pos h1]; exact h1
    · rename_i h1
      rw [if_neg h1]; exact opnFind_name s nm k h
theorem slice_name (b : List UInt8) {f u : Int} (h0 : 0 ≤ f) (h1 : f ≤ u) (h2 : u ≤ (textF' b).r.length) : nameL (runesK (textF' b).kind (sliceF (textF' b) b f u)) = nameF' (textF' b) f u := by
  rw [runes_local b h0 h1 h2, name_local _ h0 h1 h2]
section
variable {m : Mk} {X : List UInt8} {B D S : Nat} {b : List UInt8} {f u : Int}
theorem CI.end_ (h : MkI m X B D) (hc : CI (textF' b).kind m S) (h0 : 0 ≤ f) (h1 : f ≤ u) (h2 : u ≤ (textF' b).r.length) : CI (textF' b).kind (endF' (textF' b) b 10 f u m) (S + 2) := by
  unfold endF'
  have hs1 := h.i.s1
  have hle := opnFind_le m.s (nameF' (textF' b) f u) (m.s.length - 1)
  simp only
  split
  · exact CI.lk (h.wrong (textF' b) 3 f u) (hc.wrong (textF' b) (by decide)) (textF' b) b (by decide) f u
  · rename_i hk0
    have hnm := opnFind_name m.s (nameF' (textF' b) f u) (m.s.length - 1) hk0
    obtain ⟨k, hk⟩ : ∃ k, k = opnFind m.s (nameF' (textF' b) f u) (m.s.length - 1) := ⟨_, rfl⟩
    rw [← hk] at hk0 hle hnm ⊢
    obtain ⟨h3, h4⟩ := MkI.missGo (textF' b) f k m.s.length m h (by omega) (by omega)
    obtain ⟨h5, tl, h6⟩ := CI.missGo (textF' b) f k m.s.length m h hc (by omega) (by omega)
    obtain ⟨m1, hm1⟩ : ∃ m1, m1 = Go.Proofs.YtcmjijpofkoogaaGreat.missGo (textF' b) f k m.s.length m := ⟨_, rfl⟩
    rw [← hm1] at h3 h4 h5 h6 ⊢
    have htop : (topF m1.s).name = nameF' (textF' b) f u := by
      rw [← hnm]
      have e1 : (m.s.map Opn.name)[k]? = (m1.s.map Opn.name)[k]? := by
        rw [← h6, List.getElem?_append_left (by rw [List.length_map]; omega)]
      rw [List.getElem?_map, List.getElem?_map] at e1
      unfold topF
      rw [h4, Nat.add_sub_cancel]
      have hk1 : k < m.s.length := by omega
      have hk2 : k < m1.s.length := by omega
      rw [List.getElem?_eq_getElem hk1, List.getElem?_eq_getElem hk2] at e1 ⊢
      simp only [Option.map_some, Option.some.injEq] at e1
      exact e1.symm
    refine ⟨?_, ?_⟩
    · have := CIn.shut h3.i h5.c (by omega) (kind := 10) (sliceF (textF' b) b f u) (.inr ⟨rfl, by rw [slice_name b h0 h1 h2, htop]⟩)
      exact this
    · have e : sz (shutF m1.n.length (mleafF (textF' b) b 10 f u m1)) = sz m1 := sz_shut _ (by omega) 10 _
      rw [e]
      exact Nat.le_trans h5.z (by omega)
theorem CI.start (h : MkI m X B D) (hc : CI (textF' b).kind m S) (h0 : 0 ≤ f) (h1 : f ≤ u) (h2 : u ≤ (textF' b).r.length) (hn : nameF' (textF' b) f u ≠ []) : CI (textF' b).kind (startF' (textF' b) b 8 f u m) (S + 6) := by
  unfold startF'
  split
  · have := CI.lk (h.wrong (textF' b) 5 f u) (hc.wrong (textF' b) (by decide)) (textF' b) b (kind := 8) (by decide) f u
    exact ⟨this.c, Nat.le_trans this.z (by omega)⟩
  · refine ⟨hc.c.push h.i (sliceF (textF' b) b f u) (slice_name b h0 h1 h2) (name_lead _ h0 h1 h2 hn).2, ?_⟩
    have := hc.z
    show 2 * ((m.n ++ [_]).length + 2 * (kidS _ (m.s ++ [_])).length) ≤ _
    unfold sz at this
    rw [kidS_len]
    simp only [List.length_append, List.length_singleton]
    omega
theorem CI.token (h : MkI m X B D) (hc : CI (textF' b).kind m S) {kind : Int} (hk : kind ≠ 21) (h0 : 0 ≤ f) (h1 : f < u) (h2 : u ≤ (textF' b).r.length) (wh : Bool) : CI (textF' b).kind (tokenF (textF' b) b kind f u wh m) (S + 3 * (u - f).toNat) := by
  unfold tokenF
  simp only
  generalize hm1 : (if wh = false then wrongF (textF' b) 1 f u m else if (kind = 8 ∨ kind = 9 ∨ kind = 10) ∧ (readF (textF' b).r f u).right = false then wrongF (textF' b) 2 f u m else m) = m1
  have h3 : ∃ D', MkI m1 X B D' := by
    rw [← hm1]
    split
    · exact ⟨_, h.wrong (textF' b) 1 f u⟩
    · split
      · exact ⟨_, h.wrong (textF' b) 2 f u⟩
      · exact ⟨_, h⟩
  have hc1 : CI (textF' b).kind m1 S := by
    rw [← hm1]
    split
    · exact hc.wrong (textF' b) (by decide)
    · split
      · exact hc.wrong (textF' b) (by decide)
      · exact hc
  obtain ⟨D', h3⟩ := h3
  split
  · rename_i hs
    obtain ⟨_, rfl, hs⟩ := hs
    have hn : nameF' (textF' b) f u ≠ [] := List.length_pos_iff.1 hs
    have h4 := CI.start h3 hc1 h0 (by omega) h2 hn
    have h5 := (name_lead _ h0 (by omega) h2 hn).1
    exact ⟨h4.c, Nat.le_trans h4.z (by omega)⟩
  · split
    · rename_i hs
      obtain ⟨_, rfl⟩ := hs
      have h4 := CI.end_ h3 hc1 h0 (by omega) h2
      exact ⟨h4.c, Nat.le_trans h4.z (by omega)⟩
    · have h4 := CI.lk h3 hc1 (textF' b) b hk f u
      exact ⟨h4.c, Nat.le_trans h4.z (by omega)⟩
end
theorem refF_kind (l : List Int) (k : Nat) : (refF l k).1 ≠ 21 := by
  unfold refF
  repeat' split
  all_goals (intro h; simp at h)
theorem upToF_kind (l : List Int) (kd k skip : Nat) (bs : List UInt8) : (upToF l kd k skip bs).1 = kd := by unfold upToF; split <;> rfl
theorem nextTF_kind (l : List Int) (k : Nat) : (nextTF l k).1 ≠ 21 := by
  unfold nextTF
  split
  · unfold markupF
    split
    · rw [upToF_kind]; decide
    · split
      · rw [upToF_kind]; decide
      · split
        · rw [upToF_kind]; decide
        · split
          · exact (by decide : (7 : Nat) ≠ 21)
          · split
            · exact (by decide : (10 : Nat) ≠ 21)
            · split
              · unfold startTF
                repeat' split
                all_goals (intro h; simp at h)
              · exact (by decide : (11 : Nat) ≠ 21)
  · split
    · exact refF_kind l k
    · split
      · exact (by decide : (11 : Nat) ≠ 21)
      · exact (by decide : (1 : Nat) ≠ 21)
theorem CI.toks {b : List UInt8} (hb : b.length ≤ 1000000) : ∀ (n k : Nat) (m : Mk) (B D S : Nat), (textF' b).r.length - k ≤ n → k ≤ (textF' b).r.length → MkI m (upTo (textF' b) b k) B D → CI (textF' b).kind m S →
    CI (textF' b).kind ((toksGo (textF' b).r k).foldl (tokM (textF' b) b) m) (S + 3 * ((textF' b).r.length - k))
  | 0, k, m, B, D, S, h, hk, hi, hc => by
    rw [toksGo_nil (by omega)]
    exact ⟨hc.c, Nat.le_trans hc.z (by omega)⟩
  | n + 1, k, m, B, D, S, h, hk, hi, hc => by
    have ok := (text_ok b).1
    have hr : (textF' b).r.length ≤ 1000000 := Nat.le_trans (text_ok b).2.2.1 hb
    by_cases hlt : k < (textF' b).r.length
    · obtain ⟨h1, h2, h3, h4⟩ := tok_in (textF' b).r hlt
      rw [toksGo_cons hlt, List.foldl_cons]
      have := hi.token (textF' b) b hr (tokAt (textF' b).r k).kind (tokAt (textF' b).r k).from_ (tokAt (textF' b).r k).to (tokAt (textF' b).r k).whole
      rw [h1, h2, upTo_slice ok (by omega) (by omega) (by omega)] at this
      have hkd : (tokAt (textF' b).r k).kind ≠ 21 := by
        show (((nextTF (textF' b).r k).1 : Nat) : Int) ≠ 21
        have := nextTF_kind (textF' b).r k
        omega
      have hc2 := CI.token hi hc hkd (f := k) (u := ((nextTF (textF' b).r k).2.1 : Nat)) (by omega) (by omega) (by omega) (tokAt (textF' b).r k).whole
      have h5 := CI.toks hb n (nextTF (textF' b).r k).2.1 _ (B + 3) (D + 3) _ (by omega) h4 this hc2
      have e : tokM (textF' b) b m (tokAt (textF' b).r k) = tokenF (textF' b) b (tokAt (textF' b).r k).kind k ((nextTF (textF' b).r k).2.1 : Nat) (tokAt (textF' b).r k).whole m := rfl
      rw [e]
      exact ⟨h5.c, Nat.le_trans h5.z (by omega)⟩
    · rw [toksGo_nil hlt]
      exact ⟨hc.c, Nat.le_trans hc.z (by omega)⟩
end Go.Proofs.YtcmjijpofkoogaaGreat
namespace Go.Proofs.YtcmjijpofkoogaaGreat
open Go.RowKit Go.Lib
structure Evr where
  do_ : Int
  kind : Int
  b : Option (List UInt8)
  deriving Inhabited
def Evr.ev (x : Evr) : Ev := ⟨x.do_, x.kind, x.b.getD []⟩
def Evr.ba (x : Evr) : AV := match x.b with | some b => .slc 1 (bytesA b) | none => nilA
def Evr.av (x : Evr) : AV := .agg [.val (.int .i64 x.do_), .val (.int .i64 x.kind), x.ba]
structure RSt where
  op : List (List Int)
  ev : List Evr
  wr : List Dg
  deriving Inhabited
def rWrong (t : Txt) (c f u : Int) (s : RSt) : RSt := ⟨s.op, s.ev, s.wr ++ [⟨offA t f, offA t u, c⟩]⟩
def rLeaf (t : Txt) (b : List UInt8) (kind f u : Int) (s : RSt) : RSt := ⟨s.op, s.ev ++ [⟨2, kind, some (sliceF t b f u)⟩], s.wr⟩
def rLack (t : Txt) (a : Int) (s : RSt) : RSt := ⟨s.op.take (s.op.length - 1), s.ev ++ [⟨2, 22, none⟩, ⟨3, 0, none⟩], s.wr ++ [⟨offA t a, offA t a, 4⟩]⟩
def rFind (op : List (List Int)) (nm : List Int) : Nat → Int
  | 0 => -1
  | k + 1 => if op[k]?.getD [] = nm then k else rFind op nm k
def rLackGo (t : Txt) (f : Int) (k : Nat) : Nat → RSt → RSt
  | 0, s => s
  | n + 1, s => if k < s.op.length then rLackGo t f k n (rLack t f s) else s
def rStart (t : Txt) (b : List UInt8) (kind f u : Int) (s : RSt) : RSt :=
  if 64 ≤ s.op.length then rLeaf t b kind f u (rWrong t 5 f u s)
  else rLeaf t b kind f u ⟨s.op ++ [nameF' t f u], s.ev ++ [⟨1, 0, none⟩], s.wr⟩
def rEnd (t : Txt) (b : List UInt8) (kind f u : Int) (s : RSt) : RSt :=
  if rFind s.op (nameF' t f u) s.op.length < 0 then rLeaf t b kind f u (rWrong t 3 f u s)
  else
    let s1 := rLeaf t b kind f u (rLackGo t f ((rFind s.op (nameF' t f u) s.op.length).toNat + 1) (s.op.length + 1) s)
    ⟨s1.op.take (rFind s.op (nameF' t f u) s.op.length).toNat, s1.ev ++ [⟨3, 0, none⟩], s1.wr⟩
def rToken (t : Txt) (b : List UInt8) (kind f u : Int) (wh : Bool) (s : RSt) : RSt :=
  let s1 := if wh = false then rWrong t 1 f u s else if (kind = 8 ∨ kind = 9 ∨ kind = 10) ∧ (readF t.r f u).right = false then rWrong t 2 f u s else s
  if wh = true ∧ kind = 8 ∧ 0 < (nameF' t f u).length then rStart t b kind f u s1
  else if wh = true ∧ kind = 10 then rEnd t b kind f u s1
  else rLeaf t b kind f u s1
def rTok (t : Txt) (b : List UInt8) (s : RSt) (x : Tok) : RSt := rToken t b x.kind x.from_ x.to x.whole s
theorem spF_old {l : List Node} (h : Wf l) (x : Node) : ∀ (f : Nat) (n : Int) (top : Bool), 0 ≤ n → n < l.length → spF (l ++ [x]) f n top = spF l f n top
  | 0, _, _, _, _ => rfl
  | f + 1, n, top, h0, h1 => by
    simp only [spF, nodeAt_old h0 h1]
    have e1 : pr (l ++ [x]) n = pr l n := pr_old h x h0 h1
    have e2 : (nodeAt l n).kids.flatMap (fun k => spF (l ++ [x]) f k false) = (nodeAt l n).kids.flatMap (fun k => spF l f k false) := by
      refine congrArg List.flatten (List.map_congr_left fun k hk => ?_)
      have := h n h0 h1 k hk
      exact spF_old h x f k false this.1 (by omega)
    rw [e1, e2]
theorem sp_old {l : List Node} (h : Wf l) (x : Node) {n : Int} (top : Bool) (h0 : 0 ≤ n) (h1 : n < l.length) : spV (l ++ [x]) n top = spV l n top := spF_old h x _ n top h0 h1
def spL (l : List Node) (ks : List Int) : List Ev := ks.flatMap fun k => spV l k false
theorem spL_old {l : List Node} (h : Wf l) (x : Node) {ks : List Int} (hk : InR l ks) : spL (l ++ [x]) ks = spL l ks :=
  congrArg List.flatten (List.map_congr_left fun k hk' => sp_old h x false (hk k hk').1 (hk k hk').2)
theorem spL_app (l : List Node) (a b : List Int) : spL l (a ++ b) = spL l a ++ spL l b := by simp [spL]
theorem spL_one (l : List Node) (k : Int) : spL l [k] = spV l k false := by simp [spL]
theorem sp_leaf {l : List Node} (h : Ar l) {kind : Int} (hk : kind ≠ 21) (bs : List UInt8) : spV (l ++ [leafF kind bs]) l.length false = [⟨2, kind, bs⟩] := by
  have ha := ar_leaf h kind bs
  rw [spN_eq ha.1.wf (by omega) (by simp only [List.length_append, List.length_singleton]; omega), nodeAt_new, if_pos ⟨hk, rfl⟩, ha.2]; rfl
theorem sp_branch {l : List Node} (h : Ar l) {ks : List Int} (hk : InR l ks) : spV (l ++ [branchF l 21 ks]) l.length false = ⟨1, 0, []⟩ :: (spL l ks ++ [⟨3, 0, []⟩]) := by
  have ha := ar_branch h 21 hk
  rw [spN_eq ha.1.wf (by omega) (by simp only [List.length_append, List.length_singleton]; omega), nodeAt_new, if_neg (fun e => e.1 rfl), if_neg (by decide), if_neg (by decide)]
  show [_] ++ spL (l ++ [branchF l 21 ks]) ks ++ _ = _
  rw [spL_old h.wf _ hk]; rfl
def evO (l : List Node) (x : Opn) : List Ev := ⟨1, 0, []⟩ :: spL l x.kids
def evS (l : List Node) (s : List Opn) : List Ev := s.flatMap (evO l)
theorem evS_app (l : List Node) (s : List Opn) (x : Opn) : evS l (s ++ [x]) = evS l s ++ evO l x := by simp [evS]
theorem evS_old {l : List Node} (h : Wf l) (x : Node) {s : List Opn} (hs : ∀ y ∈ s, InR l y.kids) : evS (l ++ [x]) s = evS l s :=
  congrArg List.flatten (List.map_congr_left fun y hy => by unfold evO; rw [spL_old h x (hs y hy)])
structure Rel (m : Mk) (s : RSt) : Prop where
  op : s.op = (m.s.drop 1).map Opn.name
  wr : s.wr = m.d
  ev : (⟨1, 0, []⟩ : Ev) :: s.ev.map Evr.ev = evS m.n m.s
theorem drop1_app {s : List Opn} (hs : s ≠ []) (x : Opn) : (s ++ [x]).drop 1 = s.drop 1 ++ [x] := by
  cases s with
  | nil => exact absurd rfl hs
  | cons a r => rfl
section
variable {m : Mk} {s : RSt} {X : List UInt8} {B D : Nat}
theorem Rel.len (h : Rel m s) : s.op.length = m.s.length - 1 := by rw [h.op]; simp
theorem Rel.wrong (h : Rel m s) (t : Txt) (c f u : Int) : Rel (wrongF t c f u m) (rWrong t c f u s) :=
  ⟨h.op, by show s.wr ++ _ = m.d ++ _; rw [h.wr], h.ev⟩
theorem Rel.leaf (hm : MkInv m X B D) (h : Rel m s) {kind : Int} (hk : kind ≠ 21) (bs : List UInt8) (q : Option (List UInt8)) (hq : q.getD [] = bs) : Rel (kidF m.n.length (addF (leafF kind bs) m)) ⟨s.op, s.ev ++ [⟨2, kind, q⟩], s.wr⟩ := by
  obtain ⟨s0, hs0⟩ := top_split hm.s1
  generalize topF m.s = y at hs0
  have hr := hm.rng
  have ho := h.op
  have he := h.ev
  rw [hs0] at hr ho he
  have hr0 : ∀ z ∈ s0, InR m.n z.kids := fun z hz => hr z (List.mem_append_left _ hz)
  have hry : InR m.n y.kids := hr y (by simp)
  refine ⟨?_, h.wr, ?_⟩
  · show s.op = ((kidS m.n.length m.s).drop 1).map Opn.name
    rw [hs0, kid_app, ho]
    cases s0 <;> simp
  · show (⟨1, 0, []⟩ : Ev) :: (s.ev ++ [(⟨2, kind, q⟩ : Evr)]).map Evr.ev = evS (m.n ++ [leafF kind bs]) (kidS m.n.length m.s)
    rw [evS_app] at he
    rw [hs0, kid_app, evS_app, evS_old hm.ar.wf _ hr0]
    unfold evO
    rw [spL_app, spL_one, spL_old hm.ar.wf _ hry, sp_leaf hm.ar hk, List.map_append, ← List.cons_append, he]
    unfold evO Evr.ev
    rw [← hq]
    simp
theorem Rel.push (hm : MkInv m X B D) (h : Rel m s) (bs : List UInt8) (nm : List Int) (k : Int) (hk : k ≠ 21) : Rel (kidF m.n.length (addF (leafF k bs) { m with s := m.s ++ [⟨nm, []⟩] })) ⟨s.op ++ [nm], (s.ev ++ [⟨1, 0, none⟩]) ++ [⟨2, k, some bs⟩], s.wr⟩ := by
  have hne : m.s ≠ [] := fun e => by have := hm.s1; rw [e] at this; simp at this
  refine ⟨?_, h.wr, ?_⟩
  · show s.op ++ [nm] = ((kidS m.n.length (m.s ++ [⟨nm, []⟩])).drop 1).map Opn.name
    rw [kid_app, drop1_app hne, List.map_append, ← h.op]; rfl
  · show (⟨1, 0, []⟩ : Ev) :: ((s.ev ++ [(⟨1, 0, none⟩ : Evr)]) ++ [(⟨2, k, some bs⟩ : Evr)]).map Evr.ev = evS (m.n ++ [leafF k bs]) (kidS m.n.length (m.s ++ [⟨nm, []⟩]))
    rw [kid_app, evS_app, evS_old hm.ar.wf _ hm.rng, ← h.ev]
    unfold evO
    rw [List.nil_append, spL_one, sp_leaf hm.ar hk]
    simp [Evr.ev]
theorem take_less (s0 : List Opn) (y x : Opn) (z : List Int) : (((s0 ++ [y] ++ [x]).drop 1).map Opn.name).take ((((s0 ++ [y] ++ [x]).drop 1).map Opn.name).length - 1) = ((s0 ++ [(⟨y.name, z⟩ : Opn)]).drop 1).map Opn.name := by
  cases s0 with
  | nil => rfl
  | cons a r =>
    have e : ((a :: r ++ [y] ++ [x]).drop 1).map Opn.name = (r.map Opn.name ++ [y.name]) ++ [x.name] := by simp
    rw [e, List.length_append, List.length_singleton, Nat.add_sub_cancel, List.take_left]
    simp
theorem Rel.shut (hm : MkInv m X B D) (h : Rel m s) (hs : 2 ≤ m.s.length) {kind : Int} (hk : kind ≠ 21) (bs : List UInt8) (q : Option (List UInt8)) (hq : q.getD [] = bs) :
    Rel (shutF m.n.length (addF (leafF kind bs) m)) ⟨s.op.take (s.op.length - 1), s.ev ++ [⟨2, kind, q⟩, ⟨3, 0, none⟩], s.wr⟩ := by
  obtain ⟨s0, y, hs1⟩ := two_split hs
  generalize topF m.s = x at hs1
  obtain ⟨en, es⟩ := shut_eq hs1 kind bs
  obtain ⟨ha1, hp1⟩ := ar_leaf hm.ar kind bs
  have hr := hm.rng
  have ho := h.op
  have he := h.ev
  rw [hs1] at hr ho he
  have hr0 : ∀ z ∈ s0, InR m.n z.kids := fun z hz => hr z (List.mem_append_left _ (List.mem_append_left _ hz))
  have hry : InR m.n y.kids := hr y (List.mem_append_left _ (by simp))
  have hrx : InR m.n x.kids := hr x (by simp)
  have hks : InR (m.n ++ [leafF kind bs]) (x.kids ++ [(m.n.length : Int)]) := fun k hk => by
    rcases List.mem_append.1 hk with hk | hk
    · exact hrx.more _ k hk
    · obtain rfl : k = (m.n.length : Int) := by simpa using hk
      simp; omega
  have hsp := sp_branch ha1 hks
  have e1 : spL (m.n ++ [leafF kind bs]) (x.kids ++ [(m.n.length : Int)]) = spL m.n x.kids ++ [⟨2, kind, bs⟩] := by
    rw [spL_app, spL_one, spL_old hm.ar.wf _ hrx, sp_leaf hm.ar hk]
  rw [e1] at hsp
  obtain ⟨l1, hl⟩ : ∃ l1, l1 = m.n ++ [leafF kind bs] := ⟨_, rfl⟩
  rw [← hl] at hsp en es ha1
  generalize branchF l1 21 (x.kids ++ [(m.n.length : Int)]) = z at hsp en
  have up0 : evS (l1 ++ [z]) s0 = evS m.n s0 := by
    rw [evS_old ha1.wf z (fun q hq => by rw [hl]; exact (hr0 q hq).more _), hl, evS_old hm.ar.wf _ hr0]
  have upy : spL (l1 ++ [z]) y.kids = spL m.n y.kids := by
    rw [spL_old ha1.wf z (by rw [hl]; exact hry.more _), hl, spL_old hm.ar.wf _ hry]
  refine ⟨?_, h.wr, ?_⟩
  · show s.op.take (s.op.length - 1) = _
    rw [es, ho, take_less]
  · show (⟨1, 0, []⟩ : Ev) :: (s.ev ++ [(⟨2, kind, q⟩ : Evr), ⟨3, 0, none⟩]).map Evr.ev = _
    rw [evS_app, evS_app] at he
    rw [en, es, evS_app, up0, List.map_append, ← List.cons_append, he]
    unfold evO
    rw [spL_app, spL_one, upy, hsp, ← hq]
    simp [Evr.ev]
theorem Rel.miss (hm : MkInv m X B D) (h : Rel m s) (hs : 2 ≤ m.s.length) (t : Txt) (a : Int) : Rel (missF t a m) (rLack t a s) :=
  Rel.shut (inv_wrong hm t 4 a a) (h.wrong t 4 a a) hs (kind := 22) (by decide) [] none rfl
end
theorem Rel.missGo (t : Txt) (f : Int) (k : Nat) {X : List UInt8} {B D : Nat} : ∀ (n : Nat) (m : Mk) (s : RSt), MkInv m X B D → Rel m s → Rel (Go.Proofs.YtcmjijpofkoogaaGreat.missGo t f k n m) (rLackGo t f k n s)
  | 0, m, s, _, h => h
  | n + 1, m, s, hm, h => by
    show Rel (if _ then _ else _) (if _ then _ else _)
    rw [h.len]
    split
    · exact Rel.missGo t f k n _ _ (inv_miss hm (by omega) t f).1 (h.miss hm (by omega) t f)
    · exact h
theorem find_eq (s : List Opn) (nm : List Int) : ∀ k, ((opnFind s nm k : Nat) : Int) = rFind ((s.drop 1).map Opn.name) nm k + 1
  | 0 => rfl
  | k + 1 => by
    unfold opnFind rFind
    have e : ((s.drop 1).map Opn.name)[k]?.getD [] = (s[k + 1]?.getD ⟨[], []⟩).name := by
      rw [List.getElem?_map, List.getElem?_drop, Nat.add_comm 1 k]
      cases s[k + 1]? <;> rfl
    rw [e]
    split
    · rfl
    · exact find_eq s nm k
section
variable {m : Mk} {s : RSt} {X : List UInt8} {B D : Nat} {t : Txt} {b : List UInt8} {f u : Int}
theorem Rel.lk (hm : MkInv m X B D) (h : Rel m s) {kind : Int} (hk : kind ≠ 21) : Rel (lkF t b kind f u m) (rLeaf t b kind f u s) :=
  Rel.leaf hm h hk (sliceF t b f u) (some (sliceF t b f u)) rfl
theorem Rel.start (hm : MkInv m X B D) (h : Rel m s) {kind : Int} (hk : kind ≠ 21) : Rel (startF' t b kind f u m) (rStart t b kind f u s) := by
  have h1 := hm.s1
  unfold startF' rStart
  rw [h.len]
  by_cases hc : 64 < m.s.length
  · rw [if_pos hc, if_pos (by omega)]
    exact Rel.lk (inv_wrong hm t 5 f u) (h.wrong t 5 f u) hk
  · rw [if_neg hc, if_neg (by omega)]
    exact Rel.push hm h (sliceF t b f u) (nameF' t f u) kind hk
theorem Rel.end_ (hm : MkInv m X B D) (h : Rel m s) {kind : Int} (hk : kind ≠ 21) : Rel (endF' t b kind f u m) (rEnd t b kind f u s) := by
  have h1 := hm.s1
  have hf := find_eq m.s (nameF' t f u) (m.s.length - 1)
  have hle := opnFind_le m.s (nameF' t f u) (m.s.length - 1)
  rw [← h.op] at hf
  unfold endF' rEnd
  rw [h.len]
  simp only
  generalize hK : opnFind m.s (nameF' t f u) (m.s.length - 1) = K at hf hle ⊢
  generalize hR : rFind s.op (nameF' t f u) (m.s.length - 1) = r at hf ⊢
  by_cases hc : K = 0
  · rw [if_pos hc, if_pos (by omega)]
    exact Rel.lk (inv_wrong hm t 3 f u) (h.wrong t 3 f u) hk
  · rw [if_neg hc, if_neg (by omega)]
    have hr : r.toNat + 1 = K := by omega
    rw [show m.s.length - 1 + 1 = m.s.length by omega, hr]
    obtain ⟨h3, h4⟩ := inv_missGo t f K m.s.length m hm (by omega) (by omega)
    have h5 := Rel.missGo t f K m.s.length m s hm h
    have h6 := h5.len
    have h7 := Rel.shut h3 h5 (by omega) hk (sliceF t b f u) (some (sliceF t b f u)) rfl
    have e : r.toNat = (rLackGo t f K m.s.length s).op.length - 1 := by omega
    show Rel _ ⟨(rLackGo t f K m.s.length s).op.take r.toNat, ((rLackGo t f K m.s.length s).ev ++ [_]) ++ [_], _⟩
    rw [e, List.append_assoc]
    exact h7
theorem Rel.token (hm : MkInv m X B D) (h : Rel m s) {kind : Int} (hk : kind ≠ 21) (wh : Bool) : Rel (tokenF t b kind f u wh m) (rToken t b kind f u wh s) := by
  unfold tokenF rToken
  simp only
  generalize hm1 : (if wh = false then wrongF t 1 f u m else if (kind = 8 ∨ kind = 9 ∨ kind = 10) ∧ (readF t.r f u).right = false then wrongF t 2 f u m else m) = m1
  generalize hs1 : (if wh = false then rWrong t 1 f u s else if (kind = 8 ∨ kind = 9 ∨ kind = 10) ∧ (readF t.r f u).right = false then rWrong t 2 f u s else s) = s1
  have h3 : ∃ D', MkInv m1 X B D' ∧ Rel m1 s1 := by
    rw [← hm1, ← hs1]
    split
    · exact ⟨_, inv_wrong hm t 1 f u, h.wrong t 1 f u⟩
    · split
      · exact ⟨_, inv_wrong hm t 2 f u, h.wrong t 2 f u⟩
      · exact ⟨_, hm, h⟩
  obtain ⟨D', h3, h4⟩ := h3
  split
  · exact Rel.start h3 h4 hk
  · split
    · exact Rel.end_ h3 h4 hk
    · exact Rel.lk h3 h4 hk
end
theorem Rel.toks {t : Txt} {b : List UInt8} (ok : TxtOk t b) (hr : t.r.length ≤ 1000000) : ∀ (n k : Nat) (m : Mk) (s : RSt) (B D : Nat), t.r.length - k ≤ n → k ≤ t.r.length → MkI m (upTo t b k) B D → Rel m s →
    Rel ((toksGo t.r k).foldl (tokM t b) m) ((toksGo t.r k).foldl (rTok t b) s)
  | 0, k, m, s, B, D, h, hk, hi, hc => by
    rw [toksGo_nil (by omega)]; exact hc
  | n + 1, k, m, s, B, D, h, hk, hi, hc => by
    by_cases hlt : k < t.r.length
    · obtain ⟨h1, h2, h3, h4⟩ := tok_in t.r hlt
      rw [toksGo_cons hlt, List.foldl_cons, List.foldl_cons]
      have := hi.token t b hr (tokAt t.r k).kind (tokAt t.r k).from_ (tokAt t.r k).to (tokAt t.r k).whole
      rw [h1, h2, upTo_slice ok (by omega) (by omega) (by omega)] at this
      have hkd : (tokAt t.r k).kind ≠ 21 := by
        show (((nextTF t.r k).1 : Nat) : Int) ≠ 21
        have := nextTF_kind t.r k
        omega
      have h5 : Rel (tokenF t b (tokAt t.r k).kind k ((nextTF t.r k).2.1 : Nat) (tokAt t.r k).whole m) (rTok t b s (tokAt t.r k)) := Rel.token hi.i hc hkd _
      exact Rel.toks ok hr n (nextTF t.r k).2.1 _ _ (B + 3) (D + 3) (by omega) h4 this h5
    · rw [toksGo_nil hlt]; exact hc
end Go.Proofs.YtcmjijpofkoogaaGreat
namespace Go.Proofs.YtcmjijpofkoogaaGreat
open Go.RowKit Go.Lib
end Go.Proofs.YtcmjijpofkoogaaGreat
namespace Go.Proofs.YtcmjijpofkoogaaGreat
open Go.RowKit Go.Lib
end Go.Proofs.YtcmjijpofkoogaaGreat
namespace Go.Proofs.YtcmjijpofkoogaaGreat
open Go.RowKit Go.Lib
end Go.Proofs.YtcmjijpofkoogaaGreat
namespace Go.Proofs.YtcmjijpofkoogaaGreat
open Go.RowKit Go.Lib
end Go.Proofs.YtcmjijpofkoogaaGreat
namespace Go.Proofs.YtcmjijpofkoogaaGreat
open Go.RowKit Go.Lib
def Un (l : List Int) : Prop := ∀ x ∈ l, -2147483648 ≤ x ∧ x ≤ 2147483647
theorem Un.i32 {l : List Int} (h : Un l) : I32 l := fun x hx => by have := h x hx; omega
theorem Un.at_ {l : List Int} (h : Un l) (i : Int) (h0 : 0 ≤ i) (h1 : i < l.length) : -2147483648 ≤ l[i.toNat]?.getD 0 ∧ l[i.toNat]?.getD 0 ≤ 2147483647 := by
  rw [List.getElem?_eq_getElem (by omega)]
  exact h _ (List.getElem_mem _)
end Go.Proofs.YtcmjijpofkoogaaGreat
namespace Go.Proofs.YtcmjijpofkoogaaGreat
open Go.RowKit Go.Lib
end Go.Proofs.YtcmjijpofkoogaaGreat
namespace Go.Proofs.YtcmjijpofkoogaaGreat
open Go.RowKit Go.Lib
end Go.Proofs.YtcmjijpofkoogaaGreat
namespace Go.Proofs.YtcmjijpofkoogaaGreat
open Go.RowKit Go.Lib
def isRunes (l : List AV) : Bool := l.all fun x => match x with
  | .val (.int .i32 _) => true
  | _ => false
theorem isRunes_ok : ∀ {l : List AV}, isRunes l = true → l = runesA (l.map std.int)
  | [], _ => rfl
  | x :: r, h => by
    unfold isRunes at h
    rw [List.all_cons, Bool.and_eq_true] at h
    have ih := isRunes_ok (l := r) h.2
    have hx : x = .val (.int .i32 (std.int x)) := by
      have h1 := h.1
      split at h1
      · rfl
      · cases h1
    show x :: r = runeA (std.int x) :: runesA (r.map std.int)
    rw [← ih, runeA, ← hx]
def rwA (x : AV) : List Int := (std.lst x).map std.int
def isRows : List AV → Bool
  | [] => true
  | x :: r => (match x with
    | .slc 1 l => isRunes l
    | .val (.slice none 0 0) => true
    | _ => false) && isRows r
theorem isRows_at : ∀ {l : List AV}, isRows l = true → flatA l = l ∧ ∀ x ∈ l, x = .slc 1 (runesA (rwA x)) ∨ (x = .val (.slice none 0 0) ∧ rwA x = [])
  | [], _ => ⟨rfl, fun x h => by cases h⟩
  | x :: r, h => by
    unfold isRows at h
    rw [Bool.and_eq_true] at h
    obtain ⟨h1, h2⟩ := h
    obtain ⟨e1, e2⟩ := isRows_at h2
    split at h1
    · rename_i l
      refine ⟨by rw [flatA, List.flatMap_cons]; show _ :: flatA r = _; rw [e1], fun y hy => ?_⟩
      rcases List.mem_cons.1 hy with rfl | hy
      · left
        show AV.slc 1 l = .slc 1 (runesA (l.map std.int))
        rw [← isRunes_ok h1]
      · exact e2 y hy
    · refine ⟨by rw [flatA, List.flatMap_cons]; show _ :: flatA r = _; rw [e1], fun y hy => ?_⟩
      rcases List.mem_cons.1 hy with rfl | hy
      · exact .inr ⟨rfl, rfl⟩
      · exact e2 y hy
    · cases h1
theorem Concat_b (xs : List AV) (hx : isRows xs = true) (hs : sumLen (xs.map rwA) ≤ 1000000000) : BCall Tryz.prog 28 [.slc 1 xs] [] (.slc 1 (runesA (xs.map rwA).flatten)) [] := by
  refine BCall.hand (enters_of Tryz.func28 (by kernel_rfl) rfl) fun w g vs M hL => ?_
  obtain ⟨v1, vs1, rfl, h1, hL⟩ := argsCons hL
  obtain rfl := argsNil hL
  obtain ⟨A, c, ys, rfl, hr, ha⟩ := argRd h1 M
  obtain ⟨ef, ex⟩ := isRows_at hx
  rw [ef] at ha
  have hR : RowsV w A _ c (xs.map rwA) ys := ⟨hr, by rw [ha.1, List.length_map], fun i v l e1 e2 => by
    obtain ⟨x, e3, rfl⟩ := by rw [List.getElem?_map] at e2; exact Option.map_eq_some_iff.1 e2
    have hv := ha.2 i v x e1 e3
    rcases ex x (List.mem_of_getElem? e3) with h | ⟨rfl, h⟩
    · generalize rwA x = l at h ⊢
      subst h
      obtain ⟨A2, c2, ys2, rfl, hr2, ha2⟩ := argRd (show ARel1 w g [] v (.slc 1 (runesA l)) from PRel.to0 (ob := []) hv) M
      have e : runesA l = (rc l).map .val := by simp [runesA, rc, runeA]
      rw [e, flatVals] at ha2
      obtain rfl := alikeVals ha2
      exact ⟨A2, _, c2, rfl, hr2⟩
    · rw [h]
      obtain rfl : v = .slice none 0 0 := by cases hv; rfl
      exact ⟨none, 0, 0, rfl, ⟨rfl, Nat.le_refl 0, Nat.zero_le _, fun _ => rfl, fun h => absurd h (Nat.lt_irrefl 0)⟩⟩⟩
  refine (Concat_any A _ c (xs.map rwA) ys w hR hs).mono fun e w' ⟨v, h, ⟨n', ho⟩, hbel⟩ => ⟨v, h, hbel, ?_⟩
  obtain ⟨fl, hfl⟩ : ∃ fl, fl = (xs.map rwA).flatten := ⟨_, rfl⟩
  rw [← hfl] at ho ⊢
  have hn : n' = (runesA fl).length := by
    have := ho.1
    rw [runes_len]; simpa [rc] using this.symm
  refine own_slc (A' := (g.imm w w').A) ho (by decide) ?_ hn (fun x hx => by obtain ⟨y, _, rfl⟩ := List.mem_map.1 hx; rfl) (fun b o h1 h2 => .inr ⟨h1, h2⟩)
  have e : ∀ l : List Int, runesA l = (rc l).map .val := fun l => by simp [runesA, rc, runeA]
  rw [e, flatVals]
  refine vals_alike fun u hu => ?_
  obtain ⟨x, _, rfl⟩ := List.mem_map.1 hu
  rfl
theorem All_b (l : List Int) (p : Int → Bool) (f : Nat) (ef : ∀ args w, (callFunc f args).run Tryz.prog w = .ok (.enter f args) w) (hp : ∀ w, PredOk Tryz.prog f #[] p w) :
    BCall Tryz.prog 239 [.slc 1 (runesA l), .val (.func (.func f) #[] #[])] [] (.val (.bool (l.all p))) [] := by
  refine BCall.hand (enters_of Tryz.func239 (by kernel_rfl) rfl) fun w g vs M hL => ?_
  obtain ⟨v1, vs1, rfl, h1, hL⟩ := argsCons hL
  obtain ⟨v3, vs3, rfl, h3, hL⟩ := argsCons hL
  obtain rfl := argsNil hL
  obtain ⟨A, c, rfl, hr⟩ := runes_rd h1 M
  obtain rfl := argVal h3
  exact (All_any _ A _ c l f #[] p w ef hr (hp w)).mono fun e w' ⟨h, hb⟩ => ⟨_, h, hb, PRel.val _ rfl⟩
theorem Contains_b (s : ByteArray) (c : UInt8) : BCall Tryz.prog 334 [.val (.string s), .val (.string ⟨#[c]⟩)] [] (.val (.bool (s.data.toList.contains c))) [] := by
  refine BCall.hand (enters_of Tryz.func334 (by kernel_rfl) rfl) fun w g vs M hL => ?_
  obtain ⟨v1, vs1, rfl, h1, hL⟩ := argsCons hL
  obtain ⟨v3, vs3, rfl, h3, hL⟩ := argsCons hL
  obtain rfl := argsNil hL
  obtain rfl := argVal h1
  obtain rfl := argVal h3
  exact (ContainsStr_any s c w).mono fun e w' ⟨h, hb⟩ => ⟨_, h, hb ▸ Below.refl _ _, PRel.val _ rfl⟩
def rPred (g : Nat) : Option (Int → Bool) := if g = 101 then some isSpace else if g = 160 then some isNameChar else if g = 401 then some notAmp else if g = 236 then some isDig else if g = 237 then some isHex else if g = 164 then some isChar else if g = 169 then some isPlain else none
theorem rPred_ok {g : Nat} {p : Int → Bool} (h : rPred g = some p) : (∀ args w, (callFunc g args).run Tryz.prog w = .ok (.enter g args) w) ∧ ∀ w, PredOk Tryz.prog g #[] p w := by
  unfold rPred at h
  split at h
  · rename_i e; subst e; cases h; exact ⟨enters_of Tryz.func101 (by kernel_rfl) rfl, Space_ok⟩
  split at h
  · rename_i e; subst e; cases h; exact ⟨eg_NameChar, NameChar_ok⟩
  split at h
  · rename_i e; subst e; cases h; exact ⟨enters_of Tryz.func401 (by kernel_rfl) rfl, NotAmp_ok⟩
  split at h
  · rename_i e; subst e; cases h; exact ⟨enters_of Tryz.func236 (by kernel_rfl) rfl, LDigit_ok⟩
  split at h
  · rename_i e; subst e; cases h; exact ⟨enters_of Tryz.func237 (by kernel_rfl) rfl, LHex_ok⟩
  split at h
  · rename_i e; subst e; cases h; exact ⟨eg_Char, Char_ok⟩
  split at h
  · rename_i e; subst e; cases h; exact ⟨enters_of Tryz.func169 (by kernel_rfl) rfl, LPlain_ok⟩
  cases h
theorem Run_e {l : List AV} {k : Int} {g : Nat} {p : Int → Bool} (hp : rPred g = some p) (hr : isRunes l = true) : BCall Tryz.prog 100 [.slc 1 l, .val (.int .i64 k), .val (.func (.func g) #[] #[])] [] (.val (.int .i64 (runF p (l.map std.int) k))) [] := by
  have := Run_b (l.map std.int) k p g (rPred_ok hp).1 (rPred_ok hp).2
  rw [← isRunes_ok hr] at this
  exact this
theorem All_e {l : List AV} {g : Nat} {p : Int → Bool} (hp : rPred g = some p) (hr : isRunes l = true) : BCall Tryz.prog 239 [.slc 1 l, .val (.func (.func g) #[] #[])] [] (.val (.bool ((l.map std.int).all p))) [] := by
  have := All_b (l.map std.int) p g (rPred_ok hp).1 (rPred_ok hp).2
  rw [← isRunes_ok hr] at this
  exact this
theorem text_e {l : List AV} (hp : (isRunes l && Nat.ble l.length 1000) = true) : BCall Tryz.prog 399 [.slc 1 l] [] (.val (.string (txF (l.map std.int)))) [] := by
  rw [Bool.and_eq_true] at hp
  have h2 := Nat.le_of_ble_eq_true hp.2
  have := dtext_b (l.map std.int) (by rw [List.length_map]; exact Nat.le_trans h2 (by decide))
  rw [← isRunes_ok hp.1] at this
  exact this
theorem Concat_e {l : List AV} (hp : (isRows l && Nat.ble (sumLen (l.map rwA)) 1000) = true) : BCall Tryz.prog 28 [.slc 1 l] [] (.slc 1 (runesA (l.map rwA).flatten)) [] := by
  rw [Bool.and_eq_true] at hp
  have h2 := Nat.le_of_ble_eq_true hp.2
  exact Concat_b l hp.1 (Nat.le_trans h2 (by decide))
theorem Lead_e {l : List AV} {k : Nat} (hp : (isRunes l && Nat.ble k 1000) = true) : BCall Tryz.prog 102 [.slc 1 l, .val (.int .i64 (.ofNat k))] [] (.val (.int .i64 (leadF (l.map std.int) k))) [] := by
  rw [Bool.and_eq_true] at hp
  have h2 := Nat.le_of_ble_eq_true hp.2
  have := Lead_b (l.map std.int) (.ofNat k) (Int.natCast_nonneg k) (Int.ofNat_le.2 (Nat.le_trans h2 (by decide)))
  rw [← isRunes_ok hp.1] at this
  exact this
theorem Starts_e {l : List AV} {k : Nat} {s : ByteArray} (hp : (isRunes l && (Nat.ble l.length 1000 && (Nat.ble k l.length && Nat.ble s.data.toList.length 1000))) = true) : BCall Tryz.prog 22 [.slc 1 l, .val (.int .i64 (.ofNat k)), .val (.string s)] [] (.val (.bool (startsF (l.map std.int) k s.data.toList))) [] := by
  simp only [Bool.and_eq_true] at hp
  obtain ⟨h1, h2, h3, h4⟩ := hp
  have h2 := Nat.le_of_ble_eq_true h2
  have h3 := Nat.le_of_ble_eq_true h3
  have h4 := Nat.le_of_ble_eq_true h4
  have := Starts_b (l.map std.int) (by rw [List.length_map]; exact Nat.le_trans h2 (by decide)) (.ofNat k) (Int.natCast_nonneg k) (by rw [List.length_map]; exact Int.ofNat_le.2 h3) s (by simp at h4; exact Nat.le_trans h4 (by decide))
  rw [← isRunes_ok h1] at this
  exact this
def b4 (f : Nat) (a : List AV) (o : List Ob) : Option (AV × List Ob) := match o with
  | [] =>
    if f = 100 then (match a with
      | [.slc 1 l, .val (.int .i64 k), .val (.func (.func g) ⟨[]⟩ ⟨[]⟩)] => match rPred g, isRunes l with
        | some p, true => some (.val (.int .i64 (runF p (l.map std.int) k)), [])
        | _, _ => none
      | _ => none)
    else if f = 239 then (match a with
      | [.slc 1 l, .val (.func (.func g) ⟨[]⟩ ⟨[]⟩)] => match rPred g, isRunes l with
        | some p, true => some (.val (.bool ((l.map std.int).all p)), [])
        | _, _ => none
      | _ => none)
    else if f = 334 then (match a with
      | [.val (.string s), .val (.string ⟨⟨[c]⟩⟩)] => some (.val (.bool (s.data.toList.contains c)), [])
      | _ => none)
    else if f = 399 then (match a with
      | [.slc 1 l] => match isRunes l && Nat.ble l.length 1000 with
        | true => some (.val (.string (txF (l.map std.int))), [])
        | false => none
      | _ => none)
    else if f = 28 then (match a with
      | [.slc 1 l] => match isRows l && Nat.ble (sumLen (l.map rwA)) 1000 with
        | true => some (.slc 1 (runesA (l.map rwA).flatten), [])
        | false => none
      | _ => none)
    else if f = 213 then (match a with
      | [.val (.string s)] => match Nat.ble s.data.toList.length 1000 with
        | true => some (.val (.bool (nameF s.data.toList)), [])
        | false => none
      | _ => none)
    else if f = 102 then (match a with
      | [.slc 1 l, .val (.int .i64 (.ofNat k))] => match isRunes l && Nat.ble k 1000 with
        | true => some (.val (.int .i64 (leadF (l.map std.int) k)), [])
        | false => none
      | _ => none)
    else if f = 22 then (match a with
      | [.slc 1 l, .val (.int .i64 (.ofNat k)), .val (.string s)] => match isRunes l && (Nat.ble l.length 1000 && (Nat.ble k l.length && Nat.ble s.data.toList.length 1000)) with
        | true => some (.val (.bool (startsF (l.map std.int) k s.data.toList)), [])
        | false => none
      | _ => none)
    else none
  | _ => none
theorem b4_ok (f : Nat) (a : List AV) (o : List Ob) (r : AV) (o' : List Ob) (h : b4 f a o = some (r, o')) : f < 1000000 ∧ BCall Tryz.prog f a o r o' := by
  unfold b4 at h
  split at h
  · split at h
    · rename_i e; subst e
      split at h
      · split at h
        · rename_i hp hr
          cases h
          exact ⟨by decide, Run_e hp hr⟩
        · cases h
      · cases h
    split at h
    · rename_i e; subst e
      split at h
      · split at h
        · rename_i hp hr
          cases h
          exact ⟨by decide, All_e hp hr⟩
        · cases h
      · cases h
    split at h
    · rename_i e; subst e
      split at h
      · cases h
        exact ⟨by decide, Contains_b _ _⟩
      · cases h
    split at h
    · rename_i e; subst e
      split at h
      · split at h
        · rename_i hp
          cases h
          exact ⟨by decide, text_e hp⟩
        · cases h
      · cases h
    split at h
    · rename_i e; subst e
      split at h
      · split at h
        · rename_i hp
          cases h
          exact ⟨by decide, Concat_e hp⟩
        · cases h
      · cases h
    split at h
    · rename_i e; subst e
      split at h
      · split at h
        · rename_i hp
          cases h
          have h2 := Nat.le_of_ble_eq_true hp
          exact ⟨by decide, Name_b _ (by simp at h2; exact Nat.le_trans h2 (by decide))⟩
        · cases h
      · cases h
    split at h
    · rename_i e; subst e
      split at h
      · split at h
        · rename_i hp
          cases h
          exact ⟨by decide, Lead_e hp⟩
        · cases h
      · cases h
    split at h
    · rename_i e; subst e
      split at h
      · split at h
        · rename_i hp
          cases h
          exact ⟨by decide, Starts_e hp⟩
        · cases h
      · cases h
    cases h
  · cases h
end Go.Proofs.YtcmjijpofkoogaaGreat
namespace Go.Proofs.YtcmjijpofkoogaaGreat
open Go.RowKit Go.Lib
end Go.Proofs.YtcmjijpofkoogaaGreat
namespace Go.Proofs.YtcmjijpofkoogaaGreat
open Go.RowKit Go.Lib
theorem String_b (l : List Int) (hl : l.length ≤ 1000000) (f u : Int) (h0 : 0 ≤ f) (h1 : f ≤ u) (h2 : u ≤ l.length) (hne : strF ((l.drop f.toNat).take (u - f).toNat) ≠ []) :
    BCall Tryz.prog 127 [.agg [.val (.int .i64 0), .val (.int .i64 0), .slc 1 (runesA l), .val (.slice none 0 0)], .val (.int .i64 f), .val (.int .i64 u)] [] (.val (.string ⟨(strF ((l.drop f.toNat).take (u - f).toNat)).toArray⟩)) [] := by
  obtain ⟨i, rfl⟩ := Int.eq_ofNat_of_zero_le h0
  obtain ⟨j, rfl⟩ := Int.eq_ofNat_of_zero_le (Int.le_trans h0 h1)
  have e1 : ((i : Int).toNat) = i := Int.toNat_natCast i
  have e2 : ((j : Int) - (i : Int)).toNat = j - i := by omega
  rw [e1, e2] at hne ⊢
  refine BCall.hand (enters_of Tryz.func127 (by kernel_rfl) rfl) fun w g vs M hL => ?_
  obtain ⟨v1, vs1, rfl, k1, hL⟩ := argsCons hL
  obtain ⟨v2, vs2, rfl, k2, hL⟩ := argsCons hL
  obtain ⟨v3, vs3, rfl, k3, hL⟩ := argsCons hL
  obtain rfl := argsNil hL
  obtain rfl := ARel.valEq (ob := []) k2
  obtain rfl := ARel.valEq (ob := []) k3
  obtain ⟨cs, rfl, hc⟩ := k1
  obtain ⟨c0, c1, c2, c3, rfl⟩ : ∃ c0 c1 c2 c3, cs = #[c0, c1, c2, c3] := by
    rcases cs with ⟨l4⟩
    match l4, hc.1 with
    | [a, b, c, d], _ => exact ⟨a, b, c, d, rfl⟩
  obtain rfl := ARel.valEq (ob := []) (hc.2 0 c0 _ rfl rfl).1
  obtain rfl := ARel.valEq (ob := []) (hc.2 1 c1 _ rfl rfl).1
  obtain rfl := ARel.valEq (ob := []) (hc.2 3 c3 _ rfl rfl).1
  obtain ⟨A, c, rfl, hr⟩ := runes_rd (hc.2 2 c2 _ rfl rfl).1 M
  exact (TString_any _ A _ c l i j w hr (by omega) (by omega) hl hne).mono fun e w' ⟨h, hb⟩ => ⟨_, h, hb, .val _ rfl⟩
end Go.Proofs.YtcmjijpofkoogaaGreat
namespace Go.Proofs.YtcmjijpofkoogaaGreat
open Go.Shelf
def lIxb_ren : Go.Shelf.Ren := ⟨fun | 217 => 349 | 266 => 371 | n => n, fun | 3 => 3 | 5 => 5 | 9 => 9 | n => n, fun | n => n⟩
theorem lIxb : Go.Proofs.Lays.n217 Tryz.prog lIxb_ren := {
  mixed := by kernel_rfl
  f217 := Tryz.func349.trans (congrArg some (by kernel_rfl))
  f266 := Tryz.func371.trans (congrArg some (by kernel_rfl))
  t3 := Tryz.underlying3
  a3 := Tryz.isAgg3
  z3 := Tryz.sizeOf3
  v3 := Tryz.zeroValue3
  t5 := Tryz.underlying5
  a5 := Tryz.isAgg5
  z5 := Tryz.sizeOf5
  v5 := Tryz.zeroValue5
  t9 := Tryz.underlying9
  a9 := Tryz.isAgg9
  z9 := Tryz.sizeOf9
  v9 := Tryz.zeroValue9 }
end Go.Proofs.YtcmjijpofkoogaaGreat
namespace Go.Proofs.YtcmjijpofkoogaaGreat
open Go.RowKit Go.Lib
theorem IndexByte_b (x : ByteArray) (c : Int) : BCall Tryz.prog 349 [.val (.string x), .val (.int .u8 c)] [] (.val (.int .i64 (Lib.indexByte x.data.toList c.toNat.toUInt8))) [] := by
  refine BCall.hand (enters_of Tryz.func349 (by kernel_rfl) rfl) fun w g vs M hL => ?_
  obtain ⟨v1, vs1, rfl, h1, hL⟩ := argsCons hL
  obtain ⟨v2, vs2, rfl, h2, hL⟩ := argsCons hL
  obtain rfl := argsNil hL
  obtain rfl := argVal h1
  obtain rfl := argVal h2
  exact (Any.stringslite_IndexByte lIxb x c w).mono fun e w' ⟨h, hw⟩ => ⟨_, h, hw ▸ Below.refl _ _, PRel.val _ rfl⟩
def sub5 (l : List AV) (x y : Nat) : List UInt8 := strF (((l.map std.int).drop x).take (y - x))
def str5 (p q : Int) (l : List AV) (x y : Nat) : Bool := (p == 0 && q == 0) && (isRunes l && (Nat.ble l.length 1000 && (Nat.ble x y && (Nat.ble y l.length && !(sub5 l x y).isEmpty))))
theorem str5_ok {p q : Int} {l : List AV} {x y : Nat} (h : str5 p q l x y = true) : BCall Tryz.prog 127 [.agg [.val (.int .i64 p), .val (.int .i64 q), .slc 1 l, .val (.slice none 0 0)], .val (.int .i64 (.ofNat x)), .val (.int .i64 (.ofNat y))] [] (.val (.string ⟨(sub5 l x y).toArray⟩)) [] := by
  simp only [str5, Bool.and_eq_true, beq_iff_eq, Bool.not_eq_true', List.isEmpty_eq_false_iff] at h
  obtain ⟨⟨rfl, rfl⟩, h1, h2, h3, h4, h5⟩ := h
  have h2 := Nat.le_of_ble_eq_true h2
  have h3 := Nat.le_of_ble_eq_true h3
  have h4 := Nat.le_of_ble_eq_true h4
  have e : ((y : Int) - (x : Int)).toNat = y - x := by omega
  have := String_b (l.map std.int) (by rw [List.length_map]; omega) x y (by omega) (by omega) (by rw [List.length_map]; omega) (by rw [Int.toNat_natCast, e]; exact h5)
  rw [← isRunes_ok h1, Int.toNat_natCast, e] at this
  exact this
def b5 (f : Nat) (a : List AV) (o : List Ob) : Option (AV × List Ob) := match o with
  | [] => if f = 42 then (match a with
      | [.slc 1 l] => match Nat.ble l.length 1000 with
        | true => some (.slc 1 l, [])
        | false => none
      | _ => none)
    else if f = 60 then (match a with
      | [.slc 1 l] => match Nat.ble l.length 1000 with
        | true => some (.slc 1 l, [])
        | false => none
      | _ => none)
    else if f = 165 then (match a with
      | [.slc 1 l] => match Nat.ble l.length 1000 with
        | true => some (.slc 1 l, [])
        | false => none
      | _ => none)
    else if f = 349 then (match a with
      | [.val (.string x), .val (.int .u8 c)] => some (.val (.int .i64 (Lib.indexByte x.data.toList c.toNat.toUInt8)), [])
      | _ => none)
    else if f = 94 then (match a with
      | [.val (.slice none 0 0), .val (.int .i64 (.ofNat n))] => match Nat.ble n 1000 with
        | true => some (.row 0 0, [.row 5 1 false 0 []])
        | false => none
      | _ => none)
    else if f = 127 then (match a with
      | [.agg [.val (.int .i64 p), .val (.int .i64 q), .slc 1 l, .val (.slice none 0 0)], .val (.int .i64 (.ofNat x)), .val (.int .i64 (.ofNat y))] => match str5 p q l x y with
        | true => some (.val (.string ⟨(sub5 l x y).toArray⟩), [])
        | false => none
      | _ => none)
    else b4 f a []
  | _ => none
theorem b5_ok (f : Nat) (a : List AV) (o : List Ob) (r : AV) (o' : List Ob) (h : b5 f a o = some (r, o')) : f < 1000000 ∧ BCall Tryz.prog f a o r o' := by
  unfold b5 at h
  split at h
  · split at h
    · rename_i e; subst e
      split at h
      · split at h
        · rename_i hp
          cases h
          exact ⟨by decide, BytesClone_b _ (Nat.le_trans (Nat.le_of_ble_eq_true hp) (by decide))⟩
        · cases h
      · cases h
    split at h
    · rename_i e; subst e
      split at h
      · split at h
        · rename_i hp
          cases h
          exact ⟨by decide, CloneB_b _ (Nat.le_trans (Nat.le_of_ble_eq_true hp) (by decide))⟩
        · cases h
      · cases h
    split at h
    · rename_i e; subst e
      split at h
      · split at h
        · rename_i hp
          cases h
          exact ⟨by decide, CloneI_b _ (Nat.le_trans (Nat.le_of_ble_eq_true hp) (by decide))⟩
        · cases h
      · cases h
    split at h
    · rename_i e; subst e
      split at h
      · cases h
        exact ⟨by decide, IndexByte_b _ _⟩
      · cases h
    split at h
    · rename_i e; subst e
      split at h
      · split at h
        · rename_i hp
          cases h
          exact ⟨by decide, GrowB_b _ (Nat.le_trans (Nat.le_of_ble_eq_true hp) (by decide))⟩
        · cases h
      · cases h
    split at h
    · rename_i e; subst e
      split at h
      · split at h
        · rename_i hp
          cases h
          exact ⟨by decide, str5_ok hp⟩
        · cases h
      · cases h
    exact b4_ok f a [] r o' h
  · cases h
def base5 (L : List BE) (f : Nat) (a : List AV) (o : List Ob) : Option (AV × List Ob) := match baseT L f a o with
  | some r => some r
  | none => b5 f a o
theorem base5_ok {L : List BE} (hg : GoodB L) (f : Nat) (a : List AV) (o : List Ob) (r : AV) (o' : List Ob) (h : base5 L f a o = some (r, o')) : f < 1000000 ∧ BCall Tryz.prog f a o r o' := by
  unfold base5 at h
  split at h
  · rename_i q hq
    cases h
    exact base_ok hg f a o r o' hq
  · exact b5_ok f a o r o' h
end Go.Proofs.YtcmjijpofkoogaaGreat
