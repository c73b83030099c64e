/- Lemmas, conditions told -/
import Derived.Test.YtaklahcbeldbhaaGreatDoorZR06
import Derived.Great.BuildSlice
set_option linter.unusedSimpArgs false
set_option linter.unusedVariables false
namespace Go.Proofs.YtaklahcbeldbhaaGreatDoor
open Go.RowKit Go.Lib
abbrev Eqs := List (AV × AV)
def both : Option Eqs → Option Eqs → Option Eqs
  | some a, some b => some (a ++ b)
  | _, _ => none
def ren0 (ob ob' : List Ob) (ρ : List (Option Nat)) (x x' : AV) : Option Eqs :=
  match x' with
  | .dead => some []
  | .box j off => match ρ[j]? with
    | some (some i) => some [(x, .box i off)]
    | _ => none
  | .iter j => match ρ[j]? with
    | some (some i) => some [(x, .iter i)]
    | _ => none
  | .row j e' => match ob'[j]? with
    | some (.row _ _ _ e2 xs) => if e2 = e' then (match ρ[j]? with
      | some (some i) => (match ob[i]? with
        | some (.row _ _ _ e _) => some [(x, .row i e)]
        | _ => none)
      | some none => some [(x, .val (.slice none 0 0)), (.slc 0 xs, .slc 0 [])]
      | none => none) else none
    | _ => none
  | .val (.bool b) => match x with
    | .kb c => some [(.kb c, .kb b)]
    | _ => some [(x, .val (.bool b))]
  | .val v => some [(x, .val v)]
  | .slc sz xs => some [(x, .slc sz xs)]
  | .ref cs => some [(x, .ref cs)]
  | .opt y => some [(x, .opt y)]
  | .kb b => some [(x, .kb b)]
  | _ => none
def renL (ob ob' : List Ob) (ρ : List (Option Nat)) : List AV → List AV → Option Eqs
  | [], [] => some []
  | x :: r, x' :: r' => both (ren0 ob ob' ρ x x') (renL ob ob' ρ r r')
  | _, _ => none
def ren1 (ob ob' : List Ob) (ρ : List (Option Nat)) (x x' : AV) : Option Eqs :=
  match x' with
  | .agg cs' => match x with
    | .agg cs => renL ob ob' ρ cs cs'
    | _ => none
  | _ => ren0 ob ob' ρ x x'
def renT (s s' : St) (ρ : List (Option Nat)) : List (Nat × AV) → Option Eqs
  | [] => some []
  | (t, x') :: r => both (ren1 s.ob s'.ob ρ (lk t s.tm) x') (renT s s' ρ r)
def flatE : List (AV × AV) → List AV
  | [] => []
  | (a, b) :: r => a :: b :: flatE r
theorem flatE_inj : ∀ {l m : List (AV × AV)}, flatE l = flatE m → l = m
  | [], [], _ => rfl
  | [], (_, _) :: _, h => by cases h
  | (_, _) :: _, [], h => by cases h
  | (a, b) :: r, (c, d) :: q, h => by
    simp only [flatE, List.cons.injEq] at h
    rw [h.1, h.2.1, flatE_inj h.2.2]
def renOb (ob ob' : List Ob) (ρ : List (Option Nat)) (i : Option Nat) (o' : Ob) : Option Eqs :=
  match i with
  | some i => match o', ob[i]? with
    | .box cs', some (.box cs) => renL ob ob' ρ cs cs'
    | .fbox cs', some (.fbox cs) => some [(.slc 0 cs, .slc 0 cs')]
    | .row et sz fz _ xs', some (.row et2 sz2 fz2 _ xs) => if et = et2 ∧ sz = sz2 ∧ (fz2 = true → fz = true) then some [(.slc 0 xs, .slc 0 xs')] else none
    | .iter (.str b p), some (.iter (.str b2 p2)) => some [(.val (.string b2), .val (.string b)), (.box 0 p2, .box 0 p)]
    | .iter (.map es), some (.iter (.map es2)) => some [(.tup (flatE es2), .tup (flatE es))]
    | _, _ => none
  | none => match o' with
    | .row _ sz fz _ xs => if 0 < sz ∧ fz = false then some [(.slc 0 xs, .slc 0 [])] else none
    | _ => none
def renOs (ob ob' : List Ob) (ρ : List (Option Nat)) : List (Option Nat) → List Ob → Option Eqs
  | [], [] => some []
  | i :: r, o :: r' => both (renOb ob ob' ρ i o) (renOs ob ob' ρ r r')
  | _, _ => none
def headR (o0 ob ob' : List Ob) (ρ : List (Option Nat)) : Bool := (List.range o0.length).all fun j => ρ[j]? == some (some j) && (match o0[j]?, ob[j]?, ob'[j]? with
  | some (.row _ _ _ e0 _), some (.row _ _ _ e _), some (.row _ _ _ e' _) => e == e' || decide (e0 < e')
  | _, _, _ => true)
def seen (o0 : List Ob) (ρ : List (Option Nat)) (s s' : St) : Option Eqs :=
  if onceR ρ = true ∧ headR o0 s.ob s'.ob ρ = true ∧ o0.length ≤ ρ.length then both (renT s s' ρ s'.tm) (renOs s.ob s'.ob ρ ρ s'.ob) else none
def AllEq : Eqs → Prop
  | [] => True
  | (a, b) :: r => a = b ∧ AllEq r
theorem allEq_append {a b : Eqs} : AllEq (a ++ b) ↔ AllEq a ∧ AllEq b := by
  induction a with
  | nil => simp [AllEq]
  | cons x r ih => obtain ⟨u, v⟩ := x; simp [AllEq, ih, and_assoc]
theorem both_some {x y : Option Eqs} {l : Eqs} (h : both x y = some l) (hl : AllEq l) : (∃ a, x = some a ∧ AllEq a) ∧ ∃ b, y = some b ∧ AllEq b := by
  cases x with
  | none => cases h
  | some a =>
    cases y with
    | none => cases h
    | some b =>
      obtain rfl : a ++ b = l := by simpa [both] using h
      exact ⟨⟨a, rfl, (allEq_append.1 hl).1⟩, b, rfl, (allEq_append.1 hl).2⟩
def Gh.ren (g : Gh) (ρ : List (Option Nat)) : Gh := ⟨g.A, fun b => (g.G b).bind (invR ρ), fun j => match ρ[j]? with | some (some i) => g.loc i | _ => 0, fun b => g.sub b && ((g.G b).bind (invR ρ)).isSome⟩
section
variable {w : World} {g : Gh} {ob ob' : List Ob} {ρ : List (Option Nat)}
theorem invR_get {i j : Nat} (h : invR ρ i = some j) : ρ[j]? = some (some i) := by
  have := List.find?_some h
  simpa using this
theorem onceR_get (h : onceR ρ = true) {i j : Nat} (hj : ρ[j]? = some (some i)) : invR ρ i = some j := by
  have := List.all_eq_true.1 h j (List.mem_range.2 (lt_of_some hj))
  rw [hj] at this
  simpa using this
theorem ren_loc {i j : Nat} (hj : ρ[j]? = some (some i)) : (g.ren ρ).loc j = g.loc i := by simp [Gh.ren, hj]
theorem ren_G (h : onceR ρ = true) {i j b : Nat} (hj : ρ[j]? = some (some i)) (hG : g.G b = some i) : (g.ren ρ).G b = some j := by
  simp [Gh.ren, hG, onceR_get h hj]
theorem ren_Gof {j b : Nat} (hG : (g.ren ρ).G b = some j) : ∃ i, ρ[j]? = some (some i) ∧ g.G b = some i := by
  simp only [Gh.ren, Option.bind_eq_some_iff] at hG
  obtain ⟨i, h1, h2⟩ := hG
  exact ⟨i, invR_get h2, h1⟩
theorem ren_sub (h : onceR ρ = true) {i j b : Nat} (hj : ρ[j]? = some (some i)) (hG : g.G b = some i) : (g.ren ρ).sub b = g.sub b := by
  simp [Gh.ren, hG, onceR_get h hj]
theorem renOs_get : ∀ (r : List (Option Nat)) (os : List Ob) (l : Eqs), renOs ob ob' ρ r os = some l → AllEq l → r.length = os.length ∧ ∀ (j : Nat) i o, r[j]? = some i → os[j]? = some o → ∃ l, renOb ob ob' ρ i o = some l ∧ AllEq l
  | [], [], _, _, _ => ⟨rfl, fun j i o h => by simp at h⟩
  | [], _ :: _, _, h, _ => by cases h
  | _ :: _, [], _, h, _ => by cases h
  | i :: r, o :: os, l, h, hl => by
    obtain ⟨h1, b, h2, hb⟩ := both_some h hl
    obtain ⟨hn, ih⟩ := renOs_get r os b h2 hb
    refine ⟨by simp [hn], fun j i' o' hi ho => ?_⟩
    cases j with
    | zero =>
      obtain rfl : i = i' := by simpa using hi
      obtain rfl : o = o' := by simpa using ho
      exact h1
    | succ j => exact ih j i' o' (by simpa using hi) (by simpa using ho)
theorem renL_get : ∀ (r r' : List AV) (l : Eqs), renL ob ob' ρ r r' = some l → AllEq l → r.length = r'.length ∧ ∀ (j : Nat) x x', r[j]? = some x → r'[j]? = some x' → ∃ l, ren0 ob ob' ρ x x' = some l ∧ AllEq l
  | [], [], _, _, _ => ⟨rfl, fun j i o h => by simp at h⟩
  | [], _ :: _, _, h, _ => by cases h
  | _ :: _, [], _, h, _ => by cases h
  | i :: r, o :: os, l, h, hl => by
    obtain ⟨h1, b, h2, hb⟩ := both_some h hl
    obtain ⟨hn, ih⟩ := renL_get r os b h2 hb
    refine ⟨by simp [hn], fun j i' o' hi ho => ?_⟩
    cases j with
    | zero =>
      obtain rfl : i = i' := by simpa using hi
      obtain rfl : o = o' := by simpa using ho
      exact h1
    | succ j => exact ih j i' o' (by simpa using hi) (by simpa using ho)
def Fits (ob ob' : List Ob) (ρ : List (Option Nat)) : Prop := ρ.length = ob'.length ∧ ∀ (j : Nat) i o, ρ[j]? = some i → ob'[j]? = some o → ∃ l, renOb ob ob' ρ i o = some l ∧ AllEq l
theorem Fits.at_ (h : Fits ob ob' ρ) {i j : Nat} (hj : ρ[j]? = some (some i)) : ∃ o, ob'[j]? = some o ∧ ∃ l, renOb ob ob' ρ (some i) o = some l ∧ AllEq l := by
  have hl : j < ob'.length := h.1 ▸ lt_of_some hj
  exact ⟨_, List.getElem?_eq_getElem hl, h.2 j _ _ hj (List.getElem?_eq_getElem hl)⟩
theorem Fits.isB (h : Fits ob ob' ρ) {i j : Nat} (hj : ρ[j]? = some (some i)) (hb : isBox ob[i]?) : isBox ob'[j]? := by
  obtain ⟨o, ho', l, h1, _⟩ := h.at_ hj
  rw [ho']
  cases hob : ob[i]? with
  | none => rw [hob] at hb; exact hb.elim
  | some q =>
    rw [hob] at hb
    cases q <;> first | exact hb.elim | (cases o <;> first | trivial | (simp [renOb, hob] at h1; done))
theorem Fits.isI (h : Fits ob ob' ρ) {k : Bool} {i j : Nat} (hj : ρ[j]? = some (some i)) (hb : isIt k ob[i]?) : isIt k ob'[j]? := by
  obtain ⟨o, ho', l, h1, _⟩ := h.at_ hj
  rw [ho']
  cases hob : ob[i]? with
  | none => rw [hob] at hb; exact hb.elim
  | some q =>
    rw [hob] at hb
    cases q with
    | iter y => cases y <;> (cases o with
      | iter z => cases z <;> first | exact hb | (simp [renOb, hob] at h1; done)
      | _ => simp [renOb, hob] at h1)
    | _ => exact hb.elim
theorem Fits.row (h : Fits ob ob' ρ) {i j et sz e : Nat} {fz : Bool} {xs : List AV} (hj : ρ[j]? = some (some i)) (hb : ob[i]? = some (.row et sz fz e xs)) : ∃ fz' e', ob'[j]? = some (.row et sz fz' e' xs) ∧ (fz = true → fz' = true) := by
  have hl : j < ob'.length := h.1 ▸ lt_of_some hj
  obtain ⟨l, h1, h2⟩ := h.2 j _ _ hj (List.getElem?_eq_getElem hl)
  rw [List.getElem?_eq_getElem hl]
  cases ho : ob'[j] with
  | row et' sz' fz' e' xs' =>
    simp only [renOb, ho, hb] at h1
    split at h1
    · rename_i hk
      obtain ⟨rfl, rfl, hk⟩ := hk
      cases h1
      obtain ⟨h3, _⟩ := h2
      cases h3
      exact ⟨fz', e', rfl, hk⟩
    · cases h1
  | _ => simp [renOb, ho, hb] at h1
theorem ren0_rel (hF : Fits ob ob' ρ) (ho : onceR ρ = true) {v : Value} {x x' : AV} {l : Eqs} (h : ARel0 w g ob v x) (he : ren0 ob ob' ρ x x' = some l) (hl : AllEq l) : ARel0 w (g.ren ρ) ob' v x' := by
  have one : ∀ y, some [(x, y)] = some l → x = y := fun y hy => by cases hy; exact hl.1
  cases x' with
  | dead => trivial
  | box j off =>
    simp only [ren0] at he
    split at he
    · rename_i i hj
      cases one _ he
      exact ⟨by rw [ren_loc hj]; exact h.1, hF.isB hj h.2⟩
    · cases he
  | iter j =>
    simp only [ren0] at he
    split at he
    · rename_i i hj
      cases one _ he
      obtain ⟨k, h1, h2⟩ := h
      exact ⟨k, by rw [ren_loc hj]; exact h1, hF.isI hj h2⟩
    · cases he
  | row j e' =>
    simp only [ren0] at he
    split at he
    · rename_i et' sz' fz' e2 xs' hob'
      split at he
      · rename_i hee
        subst hee
        split at he
        · rename_i i hj
          split at he
          · rename_i et sz fz e xs hob
            cases one _ he
            obtain ⟨h1, et3, sz3, fz3, e3, xs3, h2, h3, h4⟩ := h
            rw [hob] at h2; cases h2
            obtain ⟨fz4, e4, h5, h6⟩ := hF.row hj hob
            rw [hob'] at h5; cases h5
            refine ⟨h1, _, _, _, _, _, hob', Nat.le_refl _, fun _ => ?_⟩
            obtain ⟨ys, h7, h8, h9, h10, h11⟩ := h4 rfl
            exact ⟨ys, h7, fun b hb => ren_G ho hj (h8 b hb), h9, h10, h11.ext h8 fun b hb => ⟨ren_G ho hj hb, ren_sub ho hj hb, fun _ => ⟨rfl, fun _ h => h⟩⟩⟩
          · cases he
        · rename_i hj
          cases he
          obtain ⟨h1, h2, _⟩ := hl
          subst h1
          cases h2
          cases (show v = _ from ARel.valEq (g := g) (w := w) (ob := ob) h)
          refine ⟨rfl, _, _, _, _, _, hob', Nat.le_refl _, fun _ => ⟨[], World.ownsRow_nil _ _ _ _, (fun b h => by cases h), Alike.nil, (fun x h => by cases h), (fun b h => by cases h), (fun _ j y h => by simp at h)⟩⟩
        · cases he
      · cases he
    · cases he
  | val u =>
    have gen : x = .val u → ARel0 w (g.ren ρ) ob' v (.val u) := fun e => by subst e; exact h
    cases u with
    | bool b =>
      simp only [ren0] at he
      split at he
      · rename_i c
        cases he
        obtain ⟨h1, _⟩ := hl
        cases h1
        have e : v = .bool b := h
        subst e
        exact PRel.val _ rfl
      · exact gen (one _ he)
    | _ => exact gen (one _ he)
  | slc sz xs => cases one _ he; exact h
  | ref cs => cases one _ he; exact h
  | opt y => cases one _ he; exact h
  | kb b => cases one _ he; exact h
  | _ => cases he
theorem renL_rel (hF : Fits ob ob' ρ) (ho : onceR ρ = true) {vs : List Value} {cs cs' : List AV} {l : Eqs} (h : ARelC w g ob vs cs) (he : renL ob ob' ρ cs cs' = some l) (hl : AllEq l) : ARelC w (g.ren ρ) ob' vs cs' := by
  obtain ⟨hn, hg⟩ := renL_get _ _ _ he hl
  refine ⟨by rw [h.1, hn], fun j y u hy hu => ?_⟩
  have hj : j < cs.length := by rw [hn]; exact lt_of_some hu
  obtain ⟨l', h1, h2⟩ := hg j _ _ (List.getElem?_eq_getElem hj) hu
  obtain ⟨h3, h4⟩ := h.2 j y _ hy (List.getElem?_eq_getElem hj)
  exact ⟨ren0_rel hF ho h3 h1 h2, h4⟩
theorem ren0_flat {x x' : AV} {l : Eqs} (he : ren0 ob ob' ρ x x' = some l) (hl : AllEq l) : x' = .dead ∨ ((∀ cs, x ≠ .agg cs) ∧ ∀ cs, x ≠ .tup cs) := by
  have one : ∀ y, some [(x, y)] = some l → x = y := fun y hy => by cases hy; exact hl.1
  have fin : ∀ y, x = y → ((∀ cs, y ≠ .agg cs) ∧ ∀ cs, y ≠ .tup cs) → x' = .dead ∨ ((∀ cs, x ≠ .agg cs) ∧ ∀ cs, x ≠ .tup cs) := fun y h hy => .inr (h ▸ hy)
  cases x' with
  | dead => exact .inl rfl
  | box j off =>
    simp only [ren0] at he
    split at he
    · exact fin _ (one _ he) ⟨(fun cs h => by cases h), (fun cs h => by cases h)⟩
    · cases he
  | iter j =>
    simp only [ren0] at he
    split at he
    · exact fin _ (one _ he) ⟨(fun cs h => by cases h), (fun cs h => by cases h)⟩
    · cases he
  | row j e' =>
    simp only [ren0] at he
    split at he
    · split at he
      · split at he
        · split at he
          · exact fin _ (one _ he) ⟨(fun cs h => by cases h), (fun cs h => by cases h)⟩
          · cases he
        · cases he
          exact fin _ hl.1 ⟨(fun cs h => by cases h), (fun cs h => by cases h)⟩
        · cases he
      · cases he
    · cases he
  | val u =>
    cases u with
    | bool b =>
      simp only [ren0] at he
      split at he
      · exact .inr ⟨(fun cs h => by cases h), (fun cs h => by cases h)⟩
      · exact fin _ (one _ he) ⟨(fun cs h => by cases h), (fun cs h => by cases h)⟩
    | _ => exact fin _ (one _ he) ⟨(fun cs h => by cases h), (fun cs h => by cases h)⟩
  | slc sz xs => exact fin _ (one _ he) ⟨(fun cs h => by cases h), (fun cs h => by cases h)⟩
  | ref cs => exact fin _ (one _ he) ⟨(fun cs h => by cases h), (fun cs h => by cases h)⟩
  | opt y => exact fin _ (one _ he) ⟨(fun cs h => by cases h), (fun cs h => by cases h)⟩
  | kb b => exact fin _ (one _ he) ⟨(fun cs h => by cases h), (fun cs h => by cases h)⟩
  | _ => cases he
theorem ren1_rel (hF : Fits ob ob' ρ) (ho : onceR ρ = true) {v : Value} {x x' : AV} {l : Eqs} (h : ARel w g ob v x) (he : ren1 ob ob' ρ x x' = some l) (hl : AllEq l) : ARel w (g.ren ρ) ob' v x' := by
  have gen : ren0 ob ob' ρ x x' = some l → ARel w (g.ren ρ) ob' v x' := fun he => by
    have hx : ARel0 w g ob v x ∨ x' = .dead := by
      rcases ren0_flat he hl with h1 | ⟨h1, h2⟩
      · exact .inr h1
      · left
        cases x <;> first | exact h | exact absurd rfl (h1 _) | exact absurd rfl (h2 _)
    rcases hx with hx | rfl
    · exact (ren0_rel hF ho hx he hl).to
    · trivial
  cases x' with
  | agg cs' =>
    simp only [ren1] at he
    split at he
    · obtain ⟨vs, rfl, hc⟩ := h
      exact ⟨vs, rfl, renL_rel hF ho hc he hl⟩
    · cases he
  | _ => exact gen he
theorem Mem.ren (M : Mem w g ob) (hF : Fits ob ob' ρ) (ho : onceR ρ = true) : Mem w (g.ren ρ) ob' := by
  have get : ∀ (j : Nat) o, ob'[j]? = some o → ∃ i, ρ[j]? = some i ∧ ∃ l, renOb ob ob' ρ i o = some l ∧ AllEq l := fun j o h => by
    have hj : j < ρ.length := hF.1 ▸ lt_of_some h
    exact ⟨_, List.getElem?_eq_getElem hj, hF.2 j _ o (List.getElem?_eq_getElem hj) h⟩
  refine ⟨fun j cs' h => ?_, fun j cs' h k u hk => ?_, fun j y h => ?_, fun b j h => ?_, fun b o hA => ⟨(M.imm b o hA).1, fun j h hs => ?_⟩, fun j et sz fz e xs h => ?_, fun b hs => ?_, fun b b' j h1 h2 hs hs' => ?_⟩
  · obtain ⟨i, hi, l, h1, h2⟩ := get j _ h
    cases i with
    | none => cases h1
    | some i =>
      simp only [renOb] at h1
      split at h1 <;> first | (rename_i heq _; cases heq; done) | skip
      · rename_i cs2 cs heq hob
        cases heq
        obtain ⟨hG, cur, T, h3, h4⟩ := M.box i cs hob
        exact ⟨by rw [ren_loc hi]; exact ren_G ho hi hG, cur, T, by rw [ren_loc hi]; exact h3, renL_rel hF ho h4 h1 h2⟩
      · cases h1
  · obtain ⟨i, hi, l, h1, h2⟩ := get j _ h
    cases i with
    | none => cases h1
    | some i =>
      simp only [renOb] at h1
      split at h1 <;> first | (rename_i heq _; cases heq; done) | skip
      · rename_i cs2 cs heq hob
        cases heq
        cases h1
        obtain ⟨h3, _⟩ := h2
        cases h3
        have := M.fbox i _ hob k u hk
        rw [ren_loc hi]
        exact this
      · cases h1
  · obtain ⟨i, hi, l, h1, h2⟩ := get j _ h
    cases i with
    | none => cases h1
    | some i =>
      simp only [renOb] at h1
      split at h1 <;> first | (rename_i heq _; cases heq; done) | skip
      · rename_i heq hob
        cases heq
        cases h1
        obtain ⟨h3, h4, _⟩ := h2
        cases h3
        cases h4
        obtain ⟨hG, h5⟩ := M.iter i _ hob
        exact ⟨by rw [ren_loc hi]; exact ren_G ho hi hG, by rw [ren_loc hi]; exact h5⟩
      · rename_i heq hob
        cases heq
        cases h1
        obtain ⟨h3, _⟩ := h2
        obtain rfl := flatE_inj (AV.tup.inj h3)
        obtain ⟨hG, h5⟩ := M.iter i _ hob
        exact ⟨by rw [ren_loc hi]; exact ren_G ho hi hG, by rw [ren_loc hi]; exact h5⟩
      · cases h1
  · obtain ⟨i, hi, hG⟩ := ren_Gof h
    exact ⟨(M.own b i hG).1, hF.1 ▸ lt_of_some hi⟩
  · obtain ⟨i, hi, hG⟩ := ren_Gof h
    obtain ⟨et, sz, e, xs, h1, h2⟩ := (M.imm b o hA).2 i hG (by rw [← ren_sub ho hi hG]; exact hs)
    obtain ⟨fz', e', h3, h4⟩ := hF.row hi h1
    obtain rfl := h4 rfl
    exact ⟨et, sz, e', xs, h3, h2⟩
  · obtain ⟨i, hi, l, h1, h2⟩ := get j _ h
    cases i with
    | none =>
      simp only [renOb] at h1
      split at h1
      · rename_i hk
        cases h1
        obtain ⟨h3, _⟩ := h2
        cases h3
        exact ⟨hk.1, fun x h => by cases h⟩
      · cases h1
    | some i =>
      simp only [renOb] at h1
      split at h1 <;> first | (rename_i heq _; cases heq; done) | skip
      · rename_i heq hob
        cases heq
        split at h1
        · rename_i hk
          obtain ⟨rfl, rfl, _⟩ := hk
          cases h1
          obtain ⟨h3, _⟩ := h2
          cases h3
          exact M.roww i _ _ _ _ _ hob
        · cases h1
      · cases h1
  · simp only [Gh.ren, Bool.and_eq_true] at hs
    obtain ⟨j, hj⟩ := Option.isSome_iff_exists.1 hs.2
    obtain ⟨i, et, sz, fz, e, xs, h1, h2⟩ := M.nsub b hs.1
    obtain ⟨i', hi, hG⟩ := ren_Gof (g := g) (ρ := ρ) hj
    rw [h1] at hG
    obtain rfl : i = i' := by simpa using hG
    obtain ⟨fz', e', h3, _⟩ := hF.row hi h2
    exact ⟨j, _, _, _, _, _, hj, h3⟩
  · obtain ⟨i, hi, hG⟩ := ren_Gof h1
    obtain ⟨i', hi', hG'⟩ := ren_Gof h2
    obtain rfl : i = i' := by
      have := hi.symm.trans hi'
      simpa using this
    exact M.uniq b b' i hG hG' (by rw [← ren_sub ho hi hG]; exact hs) (by rw [← ren_sub ho hi' hG']; exact hs')
end
end Go.Proofs.YtaklahcbeldbhaaGreatDoor
namespace Go.Proofs.YtaklahcbeldbhaaGreatDoor
open Go.RowKit Go.Lib
section
variable {w w' : World} {g g' : Gh} {ob ob' : List Ob}
theorem Step.new (M : Mem w g ob) (o : Obj) (x : Ob) : Step w g ob (w.alloc o) (g.new w ob) (ob ++ [x]) := by
  refine ⟨rfl, rfl, rfl, by simp, fun b hb _ => heap_old hb, fun b id hG => ?_, fun b o h => .inl h, Ext.new M o x, by simp⟩
  simp only [Gh.new] at hG
  split at hG
  · rename_i h; exact .inr (by omega)
  · exact .inl ⟨id, hG⟩
theorem setCells_rest (b : Nat) : ∀ (vs : List Value) (o : Nat) (W : World), (W.setCells b o vs).os = W.os ∧ (W.setCells b o vs).tape = W.tape ∧ (W.setCells b o vs).output = W.output
  | [], _, _ => ⟨rfl, rfl, rfl⟩
  | v :: r, o, W => setCells_rest b r (o + 1) (W.setCell ⟨b, o, none⟩ v)
theorem Step.store (M : Mem w g ob) {id : Nat} {cs : List AV} (h : ob[id]? = some (.box cs)) (off : Nat) (vs : List Value) (us : List AV) : Step w g ob (w.setCells (g.loc id) off vs) g (ob.set id (.box us)) := by
  refine ⟨?_, ?_, ?_, by rw [size_setCells]; exact Nat.le_refl _, fun b hb hG => ?_, fun b id hG => .inl ⟨id, hG⟩, fun b o h => .inl h, Ext.store M h off vs us, by simp⟩
  · exact (setCells_rest _ _ _ _).1
  · exact (setCells_rest _ _ _ _).2.1
  · exact (setCells_rest _ _ _ _).2.2
  · have hG' := (M.box id cs h).1
    exact cell_setCells (k := 0) (fun e => by rw [e, hG'] at hG; cases hG)
theorem Step.immNew (M : Mem w g ob) (hb : Below w.heap.size w w') : Step w g ob w' (g.imm w w') ob :=
  ⟨hb.os, hb.tape, hb.output, hb.size, fun b h _ => hb.block b h, fun b id hG => .inl ⟨id, hG⟩, fun b o h => by
    rcases h with h | ⟨h, _⟩
    · exact .inl h
    · exact .inr (.inr h), Ext.immNew M hb, Nat.le_refl _⟩
theorem Step.grow (M : Mem w g ob) {id et sz ep : Nat} {fz fz' : Bool} {xs xs' : List AV} (h : ob[id]? = some (.row et sz fz ep xs))
    {row vb : Option Nat} (hg : w.grownBy w' row) (hrow : ∀ b, row = some b → g.G b = some id) (hvb : ∀ b, vb = some b → row = some b ∨ (w.heap.size ≤ b ∧ b < w'.heap.size)) (E : Ext w g ob w' (g.grow id vb) (ob.set id (.row et sz fz' (ep + 1) xs'))) :
    Step w g ob w' (g.grow id vb) (ob.set id (.row et sz fz' (ep + 1) xs')) :=
  ⟨hg.os, hg.tape, hg.output, hg.size, fun b hb hG => hg.block b hb (fun e => by rw [hrow b e.symm] at hG; cases hG), fun b i hG => by
    rcases Gh.grow_of hG with ⟨h1, _⟩ | ⟨h1, _⟩
    · rcases hvb b h1 with h2 | h2
      · exact .inl ⟨_, hrow b h2⟩
      · exact .inr h2.1
    · exact .inl ⟨i, h1⟩, fun b o h => .inl h, E, by simp⟩
end
section
variable {w : World} {g : Gh} {ob : List Ob}
theorem Ext.reRow {id et sz e : Nat} {fz : Bool} {xs : List AV} (h : ob[id]? = some (.row et sz fz e xs)) (fz' : Bool) (xs' : List AV) : Ext w g ob w g (ob.set id (.row et sz fz' (e + 1) xs')) := by
  have hid := lt_of_some h
  refine ⟨fun b o h => ⟨h, rfl⟩, fun _ _ => rfl, fun i hi => ?_, fun i hi => ?_, fun i et' sz' fz2 e2 xs2 hi => ?_, fun _ _ _ _ => ⟨rfl, fun _ _ h => h⟩⟩
  · have : i ≠ id := by rintro rfl; rw [h] at hi; exact hi
    rw [List.getElem?_set_ne (Ne.symm this)]; exact hi
  · have : i ≠ id := by rintro rfl; rw [h] at hi; exact hi
    rw [List.getElem?_set_ne (Ne.symm this)]; exact hi
  · by_cases e' : i = id
    · subst e'
      rw [h] at hi
      cases hi
      exact ⟨fz', e + 1, xs', List.getElem?_set_self hid, by omega, fun he => by omega⟩
    · exact ⟨fz2, e2, xs2, by rw [List.getElem?_set_ne (Ne.symm e')]; exact hi, Nat.le_refl _, fun _ => .inl ⟨rfl, fun b hG => ⟨hG, rfl⟩⟩⟩
theorem Mem.reRow (M : Mem w g ob) {id et sz e : Nat} {xs : List AV} (h : ob[id]? = some (.row et sz false e xs)) {xs' : List AV} (hw : ∀ x ∈ xs', x.cells.length = sz) : Mem w g (ob.set id (.row et sz false (e + 1) xs')) := by
  have hid := lt_of_some h
  have E := Ext.reRow (w := w) (g := g) h false xs'
  refine ⟨fun i cs hi => ?_, fun i cs hi j u hj => ?_, fun i y hi => ?_, fun b i hG => ⟨(M.own b i hG).1, by rw [List.length_set]; exact (M.own b i hG).2⟩, fun b o hA => ⟨(M.imm b o hA).1, fun i hGi hs => ?_⟩, fun i et' sz' fz2 e2 xs2 hi => ?_, fun b hs => ?_, M.uniq⟩
  · have e' : i ≠ id := by rintro rfl; rw [List.getElem?_set_self hid] at hi; cases hi
    rw [List.getElem?_set_ne (Ne.symm e')] at hi
    obtain ⟨h1, cur, T, h2, h3⟩ := M.box i cs hi
    exact ⟨h1, cur, T, h2, h3.ext E⟩
  · have e' : i ≠ id := by rintro rfl; rw [List.getElem?_set_self hid] at hi; cases hi
    rw [List.getElem?_set_ne (Ne.symm e')] at hi
    exact M.fbox i cs hi j u hj
  · have e' : i ≠ id := by rintro rfl; rw [List.getElem?_set_self hid] at hi; cases hi
    rw [List.getElem?_set_ne (Ne.symm e')] at hi
    exact M.iter i y hi
  · obtain ⟨et', sz', e2, xs2, h3, h4⟩ := (M.imm b o hA).2 i hGi hs
    have e' : i ≠ id := by rintro rfl; rw [h] at h3; cases h3
    exact ⟨et', sz', e2, xs2, by rw [List.getElem?_set_ne (Ne.symm e')]; exact h3, h4⟩
  · by_cases e' : i = id
    · subst e'
      rw [List.getElem?_set_self hid] at hi
      cases hi
      exact ⟨(M.roww _ _ _ _ _ _ h).1, hw⟩
    · rw [List.getElem?_set_ne (Ne.symm e')] at hi
      exact M.roww i _ _ _ _ _ hi
  · obtain ⟨i, et', sz', fz2, e2, xs2, h3, h4⟩ := M.nsub b hs
    by_cases e' : i = id
    · subst e'
      exact ⟨i, _, _, _, _, _, h3, List.getElem?_set_self hid⟩
    · exact ⟨i, et', sz', fz2, e2, xs2, h3, by rw [List.getElem?_set_ne (Ne.symm e')]; exact h4⟩
end
section
variable {P : Program} {ty : Tys} {w0 : World} {g0 : Gh} {o0 : List Ob} {N : Nat} {Q : Ex → St → Prop}
def quietW (ty : Tys) : Op → Bool
  | .store _ _ _ | .next _ _ | .mapUpdate _ _ _ _ => false
  | .call { callee := .builtin .append, .. } => false
  | .call { callee := .value f, argTypes, .. } => !argTypes.toList.any (ptrT ty) && !rawF f
  | .convert s d _ => !(s == d && (tyLook s ty).sl)
  | _ => true
def Good (ty : Tys) (P : Program) (w0 : World) (g0 : Gh) (o0 : List Ob) (N : Nat) (Q : Ex → St → Prop) (K : St → Tree) (op : Op) (w1 : World) (a : Act) (w : World) : Prop := (quietW ty op = true → LeB w1 w) ∧ ∃ s, Sim w0 g0 o0 N s a w ∧ (K s).ok P w0 g0 o0 N Q
theorem slots_put {w w' : World} {g g' : Gh} {s : St} {ob' : List Ob} {a : Act} (hS : Slots w g s a) (E : Ext w g s.ob w' g' ob') {d : Option Nat} (hd : ∀ t, d = some t → t < a.tmps.size) {v : Value} {x : AV} (hv : ARel w' g' ob' v x) :
    Slots w' g' (St.put ⟨s.tm, ob'⟩ d x) (a.put d v) := by
  intro t
  cases d with
  | none => exact (hS t).ext E
  | some d =>
    have hlt := hd d rfl
    show ARel w' g' ob' ((a.tmps.setIfInBounds d v).getD t undef) (if t = d then x else lk t s.tm)
    by_cases e : t = d
    · subst e
      rw [if_pos rfl]
      have : (a.tmps.setIfInBounds t v).getD t undef = v := by simp [Array.getD_eq_getD_getElem?, hlt]
      rw [this]; exact hv
    · rw [if_neg e]
      have : (a.tmps.setIfInBounds d v).getD t undef = a.tmps.getD t undef := by
        simp only [Array.getD_eq_getD_getElem?]
        rw [Array.getElem?_setIfInBounds_ne (Ne.symm e)]
      rw [this]; exact (hS t).ext E
theorem sim_put {s : St} {a : Act} {w w' : World} {g g' : Gh} {ob' : List Ob} (hs : Sim w0 g0 o0 N s a w) (hS : Slots w g s a) (h0 : Step w0 g0 o0 w g s.ob) (M' : Mem w' g' ob') (h1 : Step w g s.ob w' g' ob')
    {d : Option Nat} (hd : ∀ t, d = some t → t < N) {v : Value} {x : AV} (hv : ARel w' g' ob' v x) : Sim w0 g0 o0 N (St.put ⟨s.tm, ob'⟩ d x) (a.put d v) w' := by
  refine ⟨?_, ?_, g', ?_, slots_put hS h1.ext (fun t ht => by rw [hs.size]; exact hd t ht) hv, ?_⟩
  · cases d <;> exact hs.defers
  · cases d with
    | none => exact hs.size
    | some d => show (a.tmps.setIfInBounds d v).size = N; rw [Array.size_setIfInBounds]; exact hs.size
  · cases d <;> exact M'
  · cases d <;> exact h0.trans h1
theorem run_valW {S : Sem Value} {W W' : World} {v : Value} (h : S.run P W = .ok v W') : (do pure (Next.value (← S)) : Sem Next).run P W = .ok (.value v) W' := by
  rw [Sem.run_bind, h]; rfl
theorem wp_ok {o : Oper} {a : Act} {w w' : World} {K : Act → World → Prop} {R : Exit → Act → World → Prop} {v : Value} (h : (execOp a.eval o).run P w = .ok (.value v) w') (hk : K (a.put o.dst v) w') : o.wp P a w K R := by
  unfold Oper.wp
  rw [h]
  exact hk
theorem commit_sim {s : St} {a : Act} {w : World} (x : Operand) (hs : Sim w0 g0 o0 N s a w) : Sim w0 g0 o0 N (commit std s x) a w := by
  unfold commit
  split
  · rename_i t
    split
    · rename_i id ep k hv
      split
      · rename_i et sz e xs hob
        split
        · rename_i he
          subst he
          obtain ⟨g, M, hS, h0⟩ := hs.rel
          have hr := hS t
          rw [hv] at hr
          obtain ⟨h1, et', sz', fz', e', xs', h2, h3, h4⟩ := hr
          rw [hob] at h2; cases h2
          obtain ⟨h5, h6, h7⟩ := h4 rfl
          have ec : std.cut xs 0 k = xs.take k.toNat := by simp [std]
          have E := Ext.reRow (w := w) (g := g) hob false (std.cut xs 0 k)
          have M' := M.reRow hob (xs' := std.cut xs 0 k) (fun y hy => (M.roww _ _ _ _ _ _ hob).2 y (by rw [ec] at hy; exact List.mem_of_mem_take hy))
          refine ⟨hs.defers, hs.size, g, M', fun u => ?_, h0.trans ⟨rfl, rfl, rfl, Nat.le_refl _, fun _ _ _ => rfl, fun b id h => .inl ⟨id, h⟩, fun b o h => .inl h, E, by simp⟩⟩
          show ARel w g _ _ (if u = t then .row id (e + 1) else lk u s.tm)
          by_cases eu : u = t
          · subst eu
            rw [if_pos rfl]
            exact ⟨h1, et, sz, false, e + 1, _, List.getElem?_set_self (lt_of_some hob), Nat.le_refl _, fun _ => by rw [ec]; exact h7⟩
          · rw [if_neg eu]; exact (hS u).ext E
        · exact hs
      · exact hs
    · exact hs
  · exact hs
theorem op_still {K : St → Tree} {o : Oper} {s : St} {a : Act} {w : World} {R : Exit → Act → World → Prop} (hs : Sim w0 g0 o0 N s a w) (hd : ∀ t, o.dst = some t → t < N)
    {x : AV} (hy : ∀ g, Mem w g s.ob → Slots w g s a → Yld P w g s a o (readsM o.op) x) (hok : (K (St.put s o.dst x)).ok P w0 g0 o0 N Q) : o.wp P a w (Good ty P w0 g0 o0 N Q K o.op w) R := by
  obtain ⟨g, M, hS, h0⟩ := hs.rel
  obtain ⟨v, h1, h2⟩ := hy g M hS
  exact wp_ok (h1 w (fun _ => LeB.refl w)) ⟨fun _ => LeB.refl w, _, sim_put hs hS h0 M Step.refl hd h2, hok⟩
theorem op_alloc (hT : TyOk P ty) {K : St → Tree} {o : Oper} {s : St} {a : Act} {w : World} {R : Exit → Act → World → Prop} (hs : Sim w0 g0 o0 N s a w) (hd : ∀ t, o.dst = some t → t < N)
    {T : Nat} (ho : o.op = .alloc T) (hk : (tyLook T ty).ok = true) (hok : (K (St.put ⟨s.tm, s.ob ++ [.box ((tyLook T ty).zero.map .val)]⟩ o.dst (.box s.ob.length 0))).ok P w0 g0 o0 N Q) : o.wp P a w (Good ty P w0 g0 o0 N Q K o.op w) R := by
  obtain ⟨g, M, hS, h0⟩ := hs.rel
  have ti := ty_ok hT hk
  obtain ⟨z, hz, hzr⟩ := ti.zeroV
  have hr : (execOp a.eval o).run P w = .ok (.value (.pointer (some ⟨w.heap.size, 0, none⟩))) (w.alloc (.cells z.cells T)) := by
    simp only [execOp, ho]
    refine run_valW ?_
    simp only [Instr.alloc, Sem.run_bind, hzr, Result.andThen_ok, newVar, newRow, run_newObj, Sem.run_pure]
    rfl
  have hc : ARelC w g s.ob z.cells.toList ((tyLook T ty).zero.map .val) := by rw [hz]; exact zero_rel ti.zone
  have M' := M.new (.cells z.cells T) (.box ((tyLook T ty).zero.map .val)) (fun cs h => by cases h; exact ⟨_, _, rfl, hc⟩) (fun cs h => by cases h) (fun y h => by cases h) (fun et sz fz e xs h => by cases h)
  refine wp_ok hr ⟨fun _ => (Below.refl _ w).alloc (Nat.le_refl _) _, _, sim_put hs hS h0 M' (Step.new M _ _) hd ?_, hok⟩
  refine ⟨by simp [Gh.new], ?_⟩
  rw [get_new]; trivial
theorem op_box {K : St → Tree} {o : Oper} {s : St} {a : Act} {w : World} {R : Exit → Act → World → Prop} (hs : Sim w0 g0 o0 N s a w) (hd : ∀ t, o.dst = some t → t < N)
    {T : Nat} {x : Operand} (ho : o.op = .box T x) (hl : (ev s x).live = true) (hok : (K (St.put ⟨s.tm, s.ob ++ [.box (ev s x).cells]⟩ o.dst (.box s.ob.length 0))).ok P w0 g0 o0 N Q) : o.wp P a w (Good ty P w0 g0 o0 N Q K o.op w) R := by
  obtain ⟨g, M, hS, h0⟩ := hs.rel
  have hr : (execOp a.eval o).run P w = .ok (.value (.pointer (some ⟨w.heap.size, 0, none⟩))) (w.alloc (.cells (a.eval x).cells T)) := by
    simp only [execOp, ho]
    refine run_valW ?_
    simp only [Instr.box, Sem.run_bind, Result.andThen_ok, newVar, newRow, run_newObj, Sem.run_pure]
    rfl
  have hc := (ev_rel hS x).cells hl
  have M' := M.new (.cells (a.eval x).cells T) (.box (ev s x).cells) (fun cs h => by cases h; exact ⟨_, _, rfl, hc⟩) (fun cs h => by cases h) (fun y h => by cases h) (fun et sz fz e xs h => by cases h)
  refine wp_ok hr ⟨fun _ => (Below.refl _ w).alloc (Nat.le_refl _) _, _, sim_put hs hS h0 M' (Step.new M _ _) hd ?_, hok⟩
  refine ⟨by simp [Gh.new], ?_⟩
  rw [get_new]; trivial
theorem op_store (hT : TyOk P ty) {K : St → Tree} {o : Oper} {s : St} {a : Act} {w : World} {R : Exit → Act → World → Prop} (hs : Sim w0 g0 o0 N s a w) (hd : ∀ t, o.dst = some t → t < N)
    {T : Nat} {x y : Operand} (ho : o.op = .store T x y) {id off : Nat} {c : List AV} (hx : ev s x = .box id off) (hb : s.ob[id]? = some (.box c)) (hl : (ev s y).live = true) (hk : (tyLook T ty).ok = true)
    (hsz : (ev s y).cells.length = (tyLook T ty).size) (hle : off + (ev s y).cells.length ≤ c.length)
    (hok : (K (St.put ⟨s.tm, s.ob.set id (.box (setCells c off (ev s y).cells))⟩ o.dst .dead)).ok P w0 g0 o0 N Q) : o.wp P a w (Good ty P w0 g0 o0 N Q K o.op w) R := by
  obtain ⟨g, M, hS, h0⟩ := hs.rel
  have hc := (ev_rel hS y).cells hl
  have hxr := ev_rel hS x
  rw [hx] at hxr
  have hv : a.eval x = .pointer (some ⟨g.loc id, off, none⟩) := hxr.1
  obtain ⟨hG, cur, T', hh, hcur⟩ := M.box id c hb
  have hlen : (a.eval y).cells.size = (ev s y).cells.length := by simpa using hc.1
  have hcl : cur.size = c.length := by simpa using hcur.1
  have h1 : ∀ v ∈ (a.eval y).cells.toList, v.oneCell' = true := fun v hv => by
    obtain ⟨j, hj, rfl⟩ := List.mem_iff_getElem.1 hv
    exact (hc.2 j _ _ (List.getElem?_eq_getElem hj) (List.getElem?_eq_getElem (by rw [← hc.1]; exact hj))).2
  have hst := run_storeCells_cells (P := P) (g.loc id) off (a.eval y).cells.toList 0 w (fun j hj => by
      have : off + j < cur.size := by simp at hj; omega
      simp [World.cell?, hh, this]) (fun j hj => by simp [World.frozen?, hh]) h1
  rw [Nat.add_zero] at hst
  have hsT := (ty_ok hT hk).size w
  have hr : (execOp a.eval o).run P w = .ok .skip (w.setCells (g.loc id) off (a.eval y).cells.toList) := by
    have hne : ¬ ((a.eval y).cells.size ≠ (tyLook T ty).size) := by omega
    simp only [execOp, ho, Instr.storeAt, hv, Instr.sureAddr, storeVar, Sem.run_bind, Sem.run_pure, Result.andThen_ok, hsT, hne, if_false, hst]
  have M' := M.store hb hc hle
  have : (execOp a.eval o).run P w = .ok .skip (w.setCells (g.loc id) off (a.eval y).cells.toList) := hr
  unfold Oper.wp
  rw [hr]
  show Good ty P w0 g0 o0 N Q K o.op w (a.put o.dst undef) _
  exact ⟨fun h => by simp [ho, quietW] at h, _, sim_put hs hS h0 M' (Step.store M hb _ _ _) hd (v := undef) (x := .dead) trivial, hok⟩
theorem nilq_sound (hT : TyOk P ty) {w : World} {s : St} {a : Act} {K : St → Tree} {o : Oper} {op : BinOp} {T T' : Nat} {x y : Operand} (ho : o.op = .binOp op T x y T')
    {xs : List AV} (hn : nilq s x y = some xs) (hk : (tyLook T ty).kd = 2) (b : Bool) (hop : op = if b then .eql else .neq)
    (hok : (std.emp xs → (K (St.put s o.dst (.val (.bool b)))).ok P w0 g0 o0 N Q) ∧ (K (St.put s o.dst (.val (.bool !b)))).ok P w0 g0 o0 N Q) :
    ∃ z, (K (St.put s o.dst z)).ok P w0 g0 o0 N Q ∧ ∀ g rd, Slots w g s a → Yld P w g s a o rd z := by
  unfold nilq at hn
  split at hn
  · rename_i sz xs' n c hx hy
    obtain rfl : xs' = xs := by simpa using hn
    by_cases hg : ∃ g, Slots w g s a
    · obtain ⟨g, hS⟩ := hg
      have hxr := ev_rel hS x
      have hyr := ev_rel hS y
      rw [hx] at hxr
      rw [hy] at hyr
      have hyv := hyr.valEq
      have hxr : PRel w g.A (a.eval x) (.slc sz xs') := hxr
      generalize hv : a.eval x = v at hxr
      cases hxr with
      | nil =>
        refine ⟨_, hok.1 rfl, fun g rd _ => yld_bin (u := .slice none 0 0) ho hv hyv (by simp) (by simp) (r := .bool b) (fun W => ?_) rfl⟩
        have := eq_slice_nil (P := P) hT hk none 0 0 n c W
        subst hop
        cases b
        · exact this.2
        · exact this.1
      | slc bk of cp _ _ f hc hm hw hcell hrel =>
        refine ⟨_, hok.2, fun g rd _ => yld_bin ho hv hyv (by simp) (by simp) (r := .bool !b) (fun W => ?_) rfl⟩
        have := eq_slice_nil (P := P) hT hk (some ⟨bk, of, none⟩) xs'.length cp n c W
        subst hop
        cases b
        · exact this.2
        · exact this.1
    · exact ⟨_, hok.2, fun g rd hS => absurd ⟨g, hS⟩ hg⟩
  · cases hn
theorem eqCs_vals {w : World} {g : Gh} {ob : List Ob} : ∀ (cs ds : List AV) (us vs : List Value) (sh : List Srt) (b : Bool), eqCs std cs ds = some (sh, b) → ARelC w g ob us cs → ARelC w g ob vs ds →
    us.map srtV = sh.map some ∧ vs.map srtV = sh.map some ∧ b = (us.zip vs).all fun q => eqV q.1 q.2
  | [], [], us, vs, sh, b, h, hu, hv => by
    obtain ⟨rfl, rfl⟩ : [] = sh ∧ true = b := by simpa [eqCs] using h
    obtain rfl : us = [] := List.eq_nil_of_length_eq_zero hu.1
    obtain rfl : vs = [] := List.eq_nil_of_length_eq_zero hv.1
    exact ⟨rfl, rfl, rfl⟩
  | [], _ :: _, _, _, _, _, h, _, _ => by cases h
  | _ :: _, [], _, _, _, _, h, _, _ => by cases h
  | x :: r, y :: r', us, vs, sh, b, h, hu, hv => by
    cases us with
    | nil => exact absurd hu.1 (by simp)
    | cons u us =>
      cases vs with
      | nil => exact absurd hv.1 (by simp)
      | cons v vs =>
        simp only [eqCs] at h
        split at h
        · rename_i s1 b1 s2 b2 h1 h2
          obtain ⟨rfl, rfl⟩ : s1 :: s2 = sh ∧ std.andB b1 b2 = b := by simpa using h
          obtain ⟨i1, i2, i3⟩ := eqCs_vals r r' us vs s2 b2 h2 ⟨by simpa using hu.1, fun j a c ha hc => hu.2 (j + 1) a c (by simpa using ha) (by simpa using hc)⟩ ⟨by simpa using hv.1, fun j a c ha hc => hv.2 (j + 1) a c (by simpa using ha) (by simpa using hc)⟩
          have hu0 := (hu.2 0 u x rfl rfl).1
          have hv0 := (hv.2 0 v y rfl rfl).1
          unfold eqC at h1
          split at h1
          · rename_i k a k' c
            split at h1
            · rename_i hk
              subst hk
              obtain ⟨rfl, rfl⟩ : Srt.int k = s1 ∧ std.eqI a c = b1 := by simpa using h1
              cases (show u = _ from ARel.valEq (g := g) (w := w) (ob := ob) hu0)
              cases (show v = _ from ARel.valEq (g := g) (w := w) (ob := ob) hv0)
              exact ⟨by simp [srtV, i1], by simp [srtV, i2], by rw [i3]; rfl⟩
            · cases h1
          · rename_i a c
            obtain ⟨rfl, rfl⟩ : Srt.boo = s1 ∧ std.eqB a c = b1 := by simpa using h1
            cases (show u = _ from ARel.valEq (g := g) (w := w) (ob := ob) hu0)
            cases (show v = _ from ARel.valEq (g := g) (w := w) (ob := ob) hv0)
            exact ⟨by simp [srtV, i1], by simp [srtV, i2], by rw [i3]; rfl⟩
          · rename_i a c
            obtain ⟨rfl, rfl⟩ : Srt.str = s1 ∧ std.eqS a c = b1 := by simpa using h1
            cases (show u = _ from ARel.valEq (g := g) (w := w) (ob := ob) hu0)
            cases (show v = _ from ARel.valEq (g := g) (w := w) (ob := ob) hv0)
            exact ⟨by simp [srtV, i1], by simp [srtV, i2], by rw [i3]; rfl⟩
          · cases h1
        · cases h
theorem eqAgg_sound {w : World} {s : St} {a : Act} {o : Oper} {op : BinOp} {T T' : Nat} {x y : Operand} (ho : o.op = .binOp op T x y T') {sh : List Srt} {b : Bool} (h : eqAgg std s op x y = some (sh, b)) (he : EqOk P T sh) {g : Gh} {rd : Bool} (hS : Slots w g s a) :
    Yld P w g s a o rd (.val (.bool b)) := by
  unfold eqAgg at h
  split at h
  · rename_i cs ds hx hy
    split at h
    · rename_i sh' b' hc
      have hxr := ev_rel hS x
      have hyr := ev_rel hS y
      rw [hx] at hxr
      rw [hy] at hyr
      obtain ⟨us, hu, hur⟩ := hxr
      obtain ⟨vs, hv, hvr⟩ := hyr
      obtain ⟨e1, e2, e3⟩ := eqCs_vals cs ds us.toList vs.toList sh' b' hc hur hvr
      split at h
      · obtain ⟨rfl, rfl⟩ : sh' = sh ∧ b' = b := by simpa using h
        refine yld_of (S := do eqGuard .eql T x y (a.eval x) (a.eval y); binOp .eql T (a.eval x) (a.eval y)) (fun W => by simp only [execOp, ho]) ⟨.bool b', fun W _ => ?_, .val _ rfl⟩
        obtain ⟨h1, _, h3, _⟩ := he us.toList vs.toList x y W e1 e2
        rw [Sem.run_bind, hu, hv, h1]
        rw [e3]; exact h3
      · obtain ⟨rfl, rfl⟩ : sh' = sh ∧ std.notB b' = b := by simpa using h
        refine yld_of (S := do eqGuard .neq T x y (a.eval x) (a.eval y); binOp .neq T (a.eval x) (a.eval y)) (fun W => by simp only [execOp, ho]) ⟨.bool !b', fun W _ => ?_, .val _ rfl⟩
        obtain ⟨_, h2, _, h4⟩ := he us.toList vs.toList x y W e1 e2
        rw [Sem.run_bind, hu, hv, h2]
        rw [e3]; exact h4
      · cases h
    · cases h
  · cases h
theorem nilq_ok (hT : TyOk P ty) {w : World} {s : St} {a : Act} {cs : Nat → List AV → List Ob → Option (AV × List Ob)} {K : St → Tree} {o : Oper} {op : BinOp} {T T' : Nat} {x y : Operand} (ho : o.op = .binOp op T x y T')
    (hok : (aop std ty cs K o s).ok P w0 g0 o0 N Q) :
    (aopRest std ty K o s o.op).ok P w0 g0 o0 N Q ∨ ∃ z, (K (St.put s o.dst z)).ok P w0 g0 o0 N Q ∧ ∀ g rd, Slots w g s a → Yld P w g s a o rd z := by
  simp only [aop, ho] at hok
  split at hok
  · rename_i xs hn
    right
    split at hok
    · rename_i hk
      split at hok
      · exact nilq_sound hT ho hn hk true rfl hok
      · exact nilq_sound hT ho hn hk false rfl hok
      · exact hok.elim
    · exact hok.elim
  · split at hok
    · rename_i sh b he
      exact .inr ⟨_, hok.2, fun g rd hS => eqAgg_sound ho he hok.1 hS⟩
    · left; rw [ho]; exact hok
theorem thaw_sim {s : St} {a : Act} {w : World} (x : Operand) (hs : Sim w0 g0 o0 N s a w) : Sim w0 g0 o0 N (thaw std s x) a w := by
  have go : ∀ (t : Nat) (v : AV) (ob : List Ob), frz std true 9 s.ob (lk t s.tm) = some (v, ob) → Sim w0 g0 o0 N ⟨(t, v) :: s.tm, ob⟩ a w := fun t v ob he => by
    obtain ⟨g, M, hS, h0⟩ := hs.rel
    obtain ⟨g', M', E, hr, hL⟩ := frzTop M (hS t) he
    refine ⟨hs.defers, hs.size, g', M', fun u => ?_, h0.trans (Step.ghost E hL)⟩
    show ARel w g' _ _ (if u = t then v else lk u s.tm)
    by_cases eu : u = t
    · subst eu
      rw [if_pos rfl]
      exact hr
    · rw [if_neg eu]; exact (hS u).ext E
  unfold thaw
  split
  · rename_i t
    split
    · rename_i id ep hv
      split
      · rename_i v ob he
        exact go t v ob (by rw [hv]; exact he)
      · exact hs
    · rename_i id ep k hv
      split
      · rename_i v ob he
        exact go t v ob (by rw [hv]; exact he)
      · exact hs
    · exact hs
  · exact hs
end
end Go.Proofs.YtaklahcbeldbhaaGreatDoor
namespace Go.Proofs.YtaklahcbeldbhaaGreatDoor
open Go.RowKit Go.Lib
section
variable {P : Program} {ty : Tys} {w0 : World} {g0 : Gh} {o0 : List Ob} {N : Nat} {Q : Ex → St → Prop} {w w' : World} {g g' : Gh} {ob ob' : List Ob}
theorem pur0_rel {v : Value} {x : AV} (h : ARel0 w g ob v x) (hp : x.pur0 = true) : PRel w g.A v x := by cases x <;> first | exact h | cases hp
theorem pur_alike {vs : List Value} {x : AV} {v : Value} (h : ARel1 w g ob v x) (hp : x.pur = true) : Alike w g.A v.cells.toList x.cells := by
  have hl : x.live = true := by cases x <;> first | rfl | cases hp
  have hc := h.to.cells hl
  refine ⟨hc.1, fun j y u hy hu => pur0_rel (hc.2 j y u hy hu).1 ?_⟩
  have hm := List.mem_of_getElem? hu
  cases x with
  | agg cs => exact List.all_eq_true.1 hp u hm
  | val a => obtain rfl : u = AV.val a := by simpa [AV.cells] using hm
             rfl
  | slc a b => obtain rfl : u = AV.slc a b := by simpa [AV.cells] using hm
               rfl
  | opt a => obtain rfl : u = AV.opt a := by simpa [AV.cells] using hm
             rfl
  | ref a => obtain rfl : u = AV.ref a := by simpa [AV.cells] using hm
             rfl
  | _ => cases hp
theorem fillDense {sz : Nat} : ∀ (vs : List Value) (k : Nat) (c : Array Value), (∀ v ∈ vs, v.cells.size = sz) → (k + vs.length) * sz ≤ c.size →
    ∃ c', Instr.fill (fun i => some (i * sz, sz)) c ((vs.zipIdx k).map fun x => (x.2, x.1)) = some c' ∧ c'.toList = c.toList.take (k * sz) ++ (vs.flatMap (·.cells.toList) ++ c.toList.drop ((k + vs.length) * sz))
  | [], k, c, _, _ => ⟨c, rfl, by simp⟩
  | v :: r, k, c, hv, hl => by
    have h1 := hv v List.mem_cons_self
    have hle : k * sz + sz ≤ c.size := by
      have : (k + 1) * sz ≤ (k + (v :: r).length) * sz := Nat.mul_le_mul_right _ (by simp)
      rw [Nat.add_mul, Nat.one_mul] at this
      omega
    have hfo := fold_set (k * sz) v.cells.toList 0 c
    have e1 : (v.cells.toList.take (c.size - (k * sz + 0))) = v.cells.toList := List.take_of_length_le (by simp; omega)
    rw [e1, Nat.add_zero, Array.length_toList, h1] at hfo
    generalize hc2 : (v.cells.toList.zipIdx 0).foldl (fun cs (x : Value × Nat) => cs.setIfInBounds (k * sz + x.2) x.1) c = c2 at hfo
    have hsz2 : c2.size = c.size := by
      have := congrArg List.length hfo
      simp only [Array.length_toList, List.length_append, List.length_take, List.length_drop, h1] at this
      omega
    obtain ⟨c', h3, h4⟩ := fillDense r (k + 1) c2 (fun v h => hv v (List.mem_cons_of_mem _ h)) (by rw [hsz2]; simpa [Nat.add_assoc, Nat.add_comm 1] using hl)
    refine ⟨c', ?_, ?_⟩
    · simp only [List.zipIdx_cons, List.map_cons, Instr.fill]
      rw [if_neg]
      · rw [← h3, ← hc2]
        congr 1
        rw [← Array.foldl_toList, Array.toList_zipIdx]
      · simp only [Bool.or_eq_true, decide_eq_true_eq, bne_iff_ne, ne_eq, not_or]
        omega
    · rw [h4, hfo]
      have e2 : (k + 1) * sz = k * sz + sz := by rw [Nat.add_mul, Nat.one_mul]
      have e3 : (k + 1 + r.length) * sz = k * sz + sz + r.length * sz := by rw [Nat.add_mul, e2]
      have e4 : (k + (v :: r).length) * sz = k * sz + sz + r.length * sz := by rw [List.length_cons, ← e3]; congr 1; omega
      have h5 : (c.toList.take (k * sz)).length = k * sz := by rw [List.length_take, Array.length_toList]; omega
      rw [e2, e3, e4, List.flatMap_cons]
      have h6 : (v.cells.toList).length = sz := by rw [Array.length_toList, h1]
      generalize hX : c.toList.take (k * sz) = X at h5
      have t1 : (X ++ (v.cells.toList ++ c.toList.drop (k * sz + sz))).take (k * sz + sz) = X ++ v.cells.toList := by
        rw [← List.append_assoc]
        exact List.take_left' (by rw [List.length_append]; omega)
      have t2 : (X ++ (v.cells.toList ++ c.toList.drop (k * sz + sz))).drop (k * sz + sz + r.length * sz) = c.toList.drop (k * sz + sz + r.length * sz) := by
        rw [← List.append_assoc, List.drop_append, List.drop_eq_nil_of_le (by rw [List.length_append]; omega), List.nil_append, List.length_append, h5, h6, Nat.add_sub_cancel_left, List.drop_drop]
      rw [t1, t2]
      simp only [List.append_assoc]
theorem flatMap_alike {A : Nat → Nat → Prop} : ∀ (vs : List Value) (xs : List AV), vs.length = xs.length → (∀ (j : Nat) v x, vs[j]? = some v → xs[j]? = some x → Alike w A v.cells.toList x.cells) → Alike w A (vs.flatMap (·.cells.toList)) (flatA xs)
  | [], xs, hl, _ => by
    have : xs = [] := List.eq_nil_of_length_eq_zero hl.symm
    subst this; exact Alike.nil
  | v :: vs, [], hl, _ => by simp at hl
  | v :: vs, x :: xs, hl, h => by
    rw [List.flatMap_cons, flatA, List.flatMap_cons]
    exact (h 0 v x rfl rfl).append (flatMap_alike vs xs (by simpa using hl) (fun j v x h1 h2 => h (j + 1) v x (by simpa using h1) (by simpa using h2)))
theorem KidV.nil {id : Nat} : KidV w g id (.slice none 0 0) := ⟨0, [], World.ownsRow_nil _ _ _ _, fun b h => by cases h⟩
theorem Mem.sub_lt (M : Mem w g ob) {b : Nat} (h : g.sub b = true) : b < w.heap.size := by
  obtain ⟨id, _, _, _, _, _, h1, _⟩ := M.nsub b h
  exact (M.own b id h1).1
theorem Mem.sub_new (M : Mem w g ob) {b : Nat} (h : w.heap.size ≤ b) : g.sub b = false := by
  cases hs : g.sub b with
  | false => rfl
  | true => have := M.sub_lt hs; omega
theorem kidsNil_cell {sz : Nat} : ∀ (xs : List AV), kidsNil xs = true → (∀ x ∈ xs, x.cells.length = sz) → ∀ (j : Nat) u, (flatA xs)[j]? = some u → j % sz = 1 → u = .val (.slice none 0 0)
  | [], _, _, j, u, h, _ => by simp at h
  | x :: r, hk, hw, j, u, h, hj => by
    unfold kidsNil at hk
    split at hk
    · rename_i a hc
      have hx := hw x (List.mem_cons_self ..)
      have e : flatA (x :: r) = a :: .val (.slice none 0 0) :: flatA r := by simp [hc]
      rw [e] at h
      obtain rfl : 2 = sz := by rw [hc] at hx; exact hx
      match j, h, hj with
      | 0, _, hj => cases hj
      | 1, h, _ => simpa using h.symm
      | j + 2, h, hj => exact kidsNil_cell r hk (fun y hy => hw y (List.mem_cons_of_mem _ hy)) j u (by simpa using h) (by omega)
    · cases hk
theorem nil_kids {E sz : Nat} {xs : List AV} {ys : List Value} (hs : subOk E xs = true) (hal : Alike w g.A ys (flatA xs)) (hw : ∀ x ∈ xs, x.cells.length = sz) (he : E = subT) {j : Nat} {y : Value} (hy : ys[j]? = some y) (hj : j % sz = 1) :
    y = .slice none 0 0 := by
  simp only [subOk, he, if_true] at hs
  have hl : j < (flatA xs).length := by rw [← hal.1]; exact lt_of_some hy
  have hu := List.getElem?_eq_getElem hl
  have := hal.2 j y _ hy hu
  rw [kidsNil_cell xs hs hw j _ hu hj] at this
  exact (show y = _ from ARel.valEq (g := g) (w := w) (ob := []) this)
theorem op_buildSlice (hT : TyOk P ty) {K : St → Tree} {o : Oper} {s : St} {a : Act} {w : World} {R : Exit → Act → World → Prop} (hs : Sim w0 g0 o0 N s a w) (hd : ∀ t, o.dst = some t → t < N)
    {T len : Nat} {parts : Array (Nat × Operand)} (ho : o.op = .buildSlice T len parts) {xs : List AV} {ob : List Ob} (he : eachM (frz std true 9) s.ob (parts.toList.map fun x => ev s x.2) = some (xs, ob))
    (hsub : subOk (tyLook T ty).elem xs = true) (hel : elOk ty T (tyLook (tyLook T ty).elem ty).size = true) (h1 : onePer (tyLook (tyLook T ty).elem ty).size xs = true) (hp : xs.all AV.pur = true) (hlen : len ≤ 4000) (hsz : (tyLook (tyLook T ty).elem ty).size ≤ 4000)
    (hi : parts.toList.map (·.1) = List.range len)
    (hok : (K (St.put ⟨s.tm, ob ++ [.row (tyLook T ty).elem (tyLook (tyLook T ty).elem ty).size false 0 xs]⟩ o.dst (.row ob.length 0))).ok P w0 g0 o0 N Q) : o.wp P a w (Good ty P w0 g0 o0 N Q K o.op w) R := by
  obtain ⟨g, M, hS, h0⟩ := hs.rel
  have hL : ARelL w g s.ob (parts.toList.map fun x => a.eval x.2) (parts.toList.map fun x => ev s x.2) := by
    refine ⟨by simp, fun j v x hv hx => ?_⟩
    rw [List.getElem?_map, Option.map_eq_some_iff] at hv hx
    obtain ⟨q, hq, rfl⟩ := hv
    obtain ⟨q', hq', rfl⟩ := hx
    rw [hq] at hq'; cases hq'
    have hr := ev_rel hS q.2
    exact hr.to1 (each_live _ _ _ _ he _ (List.mem_map.2 ⟨q, List.mem_of_getElem? hq, rfl⟩))
  obtain ⟨g1, M1, E1, L1, G1⟩ := frzL _ _ g s.ob xs ob M hL he
  obtain ⟨e, hu, hee, te, hes, hpos⟩ := el_facts hT hel
  obtain ⟨ie, z, hie, hies, hieb, hiz, hzc⟩ := te.i
  rw [hes] at hies
  subst hee
  generalize hE : (tyLook T ty).elem = E at *
  generalize hSZ : (tyLook E ty).size = sz at *
  have hvl : (parts.toList.map fun x => a.eval x.2).length = xs.length := L1.1
  have hpl : parts.toList.length = len := by have := congrArg List.length hi; simpa using this
  have hps : parts.size = len := by simpa using hpl
  have hxl : xs.length = len := by rw [← hvl, List.length_map, hpl]
  have hcs : ∀ (j : Nat) v x, (parts.toList.map fun x => a.eval x.2)[j]? = some v → xs[j]? = some x → Alike w g1.A v.cells.toList x.cells ∧ x.cells.length = sz := fun j v x hv hx =>
    ⟨pur_alike (vs := []) (L1.2 j v x hv hx) (List.all_eq_true.1 hp x (List.mem_of_getElem? hx)), by have := List.all_eq_true.1 h1 x (List.mem_of_getElem? hx); simpa using this⟩
  have hv : ∀ v ∈ (parts.toList.map fun x => a.eval x.2), v.cells.size = sz := fun v hv => by
    obtain ⟨j, hj, rfl⟩ := List.mem_iff_getElem.1 hv
    obtain ⟨h2, h3⟩ := hcs j _ _ (List.getElem?_eq_getElem hj) (List.getElem?_eq_getElem (by omega))
    have := h2.1
    rw [Array.length_toList] at this
    omega
  have hparts : (parts.map fun (i, x) => (i, a.eval x)).toList = ((parts.toList.map fun x => a.eval x.2).zipIdx 0).map fun x => (x.2, x.1) := by
    rw [Array.toList_map]
    refine List.ext_getElem? fun j => ?_
    simp only [List.getElem?_map, List.getElem?_zipIdx, Nat.zero_add]
    cases hj : parts.toList[j]? with
    | none => rfl
    | some q =>
      have h4 : (parts.toList.map (·.1))[j]? = some q.1 := by rw [List.getElem?_map, hj]; rfl
      rw [hi, List.getElem?_range (by have := lt_of_some hj; omega)] at h4
      obtain rfl : j = q.1 := by simpa using h4
      rfl
  obtain ⟨c', hf, hc'⟩ := fillDense (sz := sz) (parts.toList.map fun x => a.eval x.2) 0 ((Array.range (len * sz)).map (z.cells[· % z.cells.size]!)) hv (by simp [hps])
  have hcsz : c'.toList = (parts.toList.map fun x => a.eval x.2).flatMap (·.cells.toList) := by
    rw [hc', Nat.zero_mul, List.take_zero, List.nil_append, Nat.zero_add, List.drop_eq_nil_of_le (by simp [hps]), List.append_nil]
  have hal : Alike w g1.A c'.toList (flatA xs) := by
    rw [hcsz]
    exact flatMap_alike _ _ hvl (fun j v x hv hx => (hcs j v x hv hx).1)
  have hw : ∀ x ∈ xs, x.cells.length = sz := fun x hx => by have := List.all_eq_true.1 h1 x hx; simpa using this
  have hc'l : c'.size = len * sz := by
    have := hal.1
    rw [flat_len xs hw, hxl, Array.length_toList] at this
    exact this
  have hsmall : ¬ len * sz > 2 ^ 24 := by
    have : len * sz ≤ 4000 * 4000 := Nat.mul_le_mul hlen hsz
    omega
  have hr : (execOp a.eval o).run P w = .ok (.value (.slice (some ⟨w.heap.size, 0, none⟩) len len)) (w.alloc (.cells c' E)) := by
    simp only [execOp, ho]
    refine run_valW ?_
    by_cases h0 : len * sz = 0
    · have : c' = #[] := by apply Array.eq_empty_of_size_eq_zero; omega
      subst this
      have hl0 : len = 0 := by
        rcases Nat.eq_zero_or_pos len with h | h
        · exact h
        · have := Nat.mul_pos h hpos; omega
      subst hl0
      have hp0 : parts = #[] := by
        apply Array.ext'
        exact List.eq_nil_of_length_eq_zero hpl
      subst hp0
      simp [Instr.buildSlice, run_underlying hu, sizeOf, typeInfo, hie, Instr.fill, newRow]
      congr 2
      apply Array.eq_empty_of_size_eq_zero
      simp
    · refine run_buildSlice w T E len _ c' ie z hu hie hiz (by rw [hies]; exact hsmall) (by rw [hies]; exact h0) ?_
      rw [hies, hparts]
      exact hf
  have hrow : RowV (w.alloc (.cells c' E)) (g1.new w ob) ob.length E sz (.slice (some ⟨w.heap.size, 0, none⟩) len len) xs := by
    refine ⟨c'.toList, ⟨by rw [Array.length_toList, hc'l, hxl], .inr ⟨w.heap.size, len, c', by rw [hxl], Nat.zero_le _, heap_new w _, by omega, by unfold maxLen; omega, hc'l, ?_⟩⟩, fun b hb => ?_, hal.keep (Ext.new M1 (.cells c' E) (.row E sz false 0 xs)).A, hw, fun b hb => ?_, fun he j y hy hj => ?_⟩
    · rw [hxl, ← hc'l]
      exact List.take_of_length_le (by simp)
    · obtain rfl : w.heap.size = b := by simpa [Value.ownBlock] using hb
      simp [Gh.new]
    · obtain rfl : w.heap.size = b := by simpa [Value.ownBlock] using hb
      exact M1.sub_new (Nat.le_refl _)
    · obtain rfl := nil_kids hsub hal hw he hy hj
      exact ⟨KidV.nil, fun _ _ b _ _ _ h => by cases h⟩
  have M' := M1.new (.cells c' E) (.row E sz false 0 xs) (fun cs h => by cases h) (fun cs h => by cases h) (fun y h => by cases h) (fun et sz' fz e ys h => by cases h; exact ⟨hpos, hw⟩)
  have hS1 : Slots w g1 ⟨s.tm, ob⟩ a := fun t => (hS t).ext E1
  refine wp_ok hr ⟨fun _ => (Below.refl _ w).alloc (Nat.le_refl _) _, _, sim_put (s := ⟨s.tm, ob⟩) ⟨hs.defers, hs.size, g1, M1, hS1, h0.trans (Step.ghost E1 G1)⟩ hS1 (h0.trans (Step.ghost E1 G1)) M' (Step.new M1 _ _) hd ?_, hok⟩
  exact ⟨rfl, E, sz, false, 0, xs, get_new, Nat.le_refl _, fun _ => hrow⟩
end
end Go.Proofs.YtaklahcbeldbhaaGreatDoor
namespace Go.Proofs.YtaklahcbeldbhaaGreatDoor
open Go.RowKit Go.Lib
section
variable {P : Program} {ty : Tys} {w0 : World} {g0 : Gh} {o0 : List Ob} {N : Nat} {Q : Ex → St → Prop} {w w' : World} {g g' : Gh} {ob ob' : List Ob}
theorem Ext.addRow (x : Ob) : Ext w g ob w g (ob ++ [x]) :=
  ⟨fun _ _ h => ⟨h, rfl⟩, fun _ _ => rfl, fun id h => by rw [get_old (isBox_lt h)]; exact h, fun id h => by rw [get_old (isIt_lt h)]; exact h,
    fun id et sz fz e xs h => ⟨fz, e, xs, by rw [get_old (lt_of_some h)]; exact h, Nat.le_refl _, fun _ => .inl ⟨rfl, fun _ h => ⟨h, rfl⟩⟩⟩, fun _ _ _ _ => ⟨rfl, fun _ _ h => h⟩⟩
theorem Mem.addRow (M : Mem w g ob) {et sz : Nat} (hs : 0 < sz) : Mem w g (ob ++ [.row et sz false 0 []]) := by
  have E := Ext.addRow (w := w) (g := g) (ob := ob) (.row et sz false 0 [])
  have last : ∀ {id : Nat} {y : Ob}, (ob ++ [.row et sz false 0 []])[id]? = some y → id < ob.length ∧ ob[id]? = some y ∨ y = .row et sz false 0 [] := fun {id y} h => by
    by_cases hl : id < ob.length
    · rw [get_old hl] at h; exact .inl ⟨hl, h⟩
    · have hid : id = ob.length := by have := lt_of_some h; simp at this; omega
      subst hid
      rw [get_new] at h
      exact .inr (by simpa using h.symm)
  refine ⟨fun id cs h => ?_, fun id cs h j u hj => ?_, fun id y h => ?_, fun b id h => ⟨(M.own b id h).1, by have := (M.own b id h).2; simp; omega⟩, fun b o hA => ⟨(M.imm b o hA).1, fun id hG hs => ?_⟩, fun id et' sz' fz e xs h => ?_, fun b hs => ?_, M.uniq⟩
  · rcases last h with ⟨_, h⟩ | h
    · obtain ⟨h1, cur, T, h2, h3⟩ := M.box id cs h
      exact ⟨h1, cur, T, h2, h3.ext E⟩
    · cases h
  · rcases last h with ⟨_, h⟩ | h
    · exact M.fbox id cs h j u hj
    · cases h
  · rcases last h with ⟨_, h⟩ | h
    · exact M.iter id y h
    · cases h
  · obtain ⟨et', sz', e, xs, h3, h4⟩ := (M.imm b o hA).2 id hG hs
    exact ⟨et', sz', e, xs, by rw [get_old (lt_of_some h3)]; exact h3, h4⟩
  · rcases last h with ⟨_, h⟩ | h
    · exact M.roww id et' sz' fz e xs h
    · cases h; exact ⟨hs, fun x hx => by cases hx⟩
  · obtain ⟨id, et', sz', fz, e, xs, h3, h4⟩ := M.nsub b hs
    exact ⟨id, et', sz', fz, e, xs, h3, by rw [get_old (lt_of_some h4)]; exact h4⟩
theorem Step.addRow (x : Ob) : Step w g ob w g (ob ++ [x]) :=
  ⟨rfl, rfl, rfl, Nat.le_refl _, fun _ _ _ => rfl, fun _ _ h => .inl ⟨_, h⟩, fun _ _ h => .inl h, Ext.addRow x, by simp⟩
theorem src_rel (hT : TyOk P ty) {s : St} (M : Mem w g s.ob) {E U : Nat} {v : Value} {y : AV} (hv : ARel w g s.ob v y) {sz : Nat} {news : List AV} (h : srcOf std ty s E U y = some (sz, news)) (hel : (tyLook E ty).size = sz) (hsz : 0 < sz)
    (hw : ∀ x ∈ news, x.cells.length = sz) :
    ∃ d zs, P.underlying U = some d ∧ ((∃ e', d = .slice e') ∨ d = .string) ∧ zs.length = news.length * sz ∧ Alike w g.A zs (flatA news) ∧ (∀ W, (Builtin.lenOf v).run P W = .ok news.length W) ∧
      ∀ W : World, W.heap = w.heap → (Builtin.firstCells sz news.length v).run P W = .ok zs.toArray W := by
  unfold srcOf at h
  split at h
  · rename_i b
    split at h
    · rename_i hk
      obtain ⟨rfl, rfl⟩ : 1 = sz ∧ std.bytesS b = news := by simpa using h
      have hb : std.isB (std.bytesS b) := fun x hx => by
        obtain ⟨n, _, rfl⟩ := List.mem_map.1 (show x ∈ b.data.toList.map _ from hx)
        exact ⟨n, rfl⟩
      have hl : (std.bytesS b).length = b.size := by show (b.data.toList.map _).length = _; simp
      rw [hv.valEq]
      refine ⟨.string, strCells b, (ty_kd hT hk.1 (by decide)).str hk.1, .inr rfl, by rw [strCells_length, hl, Nat.mul_one], ?_, fun W => by rw [hl]; rfl, fun W _ => by rw [hl]; exact run_firstCells_string W 1 b⟩
      rw [isB_flat hb]
      refine ⟨by rw [strCells_length, hl], fun j y u hy hu => ?_⟩
      have hu : (b.data.toList.map fun x => AV.val (.int .u8 x.toNat))[j]? = some u := hu
      simp only [strCells, List.getElem?_map, Option.map_eq_some_iff] at hy hu
      obtain ⟨c, hc, rfl⟩ := hy
      obtain ⟨c', hc', rfl⟩ := hu
      rw [hc] at hc'; cases hc'
      exact PRel.val _ rfl
    · cases h
  · split at h
    · rename_i hk
      obtain ⟨_, rfl⟩ : _ ∧ [] = news := by simpa using h
      rw [hv.valEq]
      exact ⟨_, [], (ty_sl hT hk).slice hk, .inl ⟨_, rfl⟩, by simp, Alike.nil, fun W => rfl, fun W _ => rfl⟩
    · cases h
  · split at h
    · rename_i hk
      obtain ⟨A, c, ys, rfl, hr, hal⟩ := elems_rel M hv h
      refine ⟨_, ys, (ty_sl hT hk).slice hk, .inl ⟨_, rfl⟩, hr.len, hal, fun W => rfl, fun W hW => ?_⟩
      rcases Nat.eq_zero_or_pos news.length with h0 | h0
      · have hy : ys = [] := List.eq_nil_of_length_eq_zero (by rw [hr.len, h0, Nat.zero_mul])
        subst hy
        rw [h0]
        cases A <;> simp [Builtin.firstCells, loadCells, loadCellsFrom]
      · obtain ⟨b, o, rfl, _, hc⟩ := hr.at_ h0
        refine run_firstCells_some (P := P) W sz news.length _ _ _ ys hr.len (fun j u hj => ?_)
        rw [Addr.add_mid, show W.cell? ⟨b, o + j, none⟩ = w.cell? ⟨b, o + j, none⟩ from by simp only [World.cell?, hW]]
        exact hc j u hj
    · cases h
set_option maxHeartbeats 1000000 in
theorem append_core (hT : TyOk P ty) {s : St} {a : Act} {w : World} (M : Mem w g ob) {T U : Nat} {id et sz ep : Nat} {fz : Bool} {xs xs' news : List AV} (h : ob[id]? = some (.row et sz fz ep xs)) {v : Value}
    (hv : RowV w g id et sz v xs') (hfz : fz = true → xs' = xs) (hel : elOk ty T sz = true) (het : et = (tyLook T ty).elem) {d : TypeDesc} {y : Value} {zs : List Value} (hu : P.underlying U = some d) (hd : (∃ e', d = .slice e') ∨ d = .string)
    (hzl : zs.length = news.length * sz) (hal : Alike w g.A zs (flatA news)) (hlen : ∀ W, (Builtin.lenOf y).run P W = .ok news.length W)
    (hfc : ∀ W : World, W.heap = w.heap → (Builtin.firstCells sz news.length y).run P W = .ok zs.toArray W) (hw : ∀ x ∈ news, x.cells.length = sz) (hsub : subOk et news = true) (hb : xs'.length + news.length ≤ 1000000000) (tyR : TypeId) :
    ∃ v' w', (Builtin.append_ #[T, U] tyR #[v, y]).run P w = .ok v' w' ∧ Mem w' (g.grow id v'.ownBlock) (ob.set id (.row et sz fz (ep + 1) (xs' ++ news))) ∧
      Step w g ob w' (g.grow id v'.ownBlock) (ob.set id (.row et sz fz (ep + 1) (xs' ++ news))) ∧ RowV w' (g.grow id v'.ownBlock) id et sz v' (xs' ++ news) := by
  obtain ⟨e, hT1, hee, te, hes, hpos⟩ := el_facts hT hel
  obtain ⟨ie, z, hie, hies, hieb, hiz, hzc⟩ := te.i
  have heq : et = e := het.trans hee.symm
  subst heq
  obtain ⟨ys, ho, hG, hya, hyw, hys⟩ := hv
  have hzs : z.cells.size = sz := by
    have := congrArg List.length hzc
    rw [Array.length_toList, te.zl, hes] at this
    exact this
  obtain ⟨v', w', hr, h1, h2, h3, h4⟩ := append_any (P := P) (w := w) (ty := tyR) hT1 hu hd hie hiz (hies.trans hes) (by rw [hieb]; exact te.by_) hzs ho hzl hlen hfc hal.one hb
  have hww : ∀ x ∈ xs' ++ news, x.cells.length = sz := fun x hx => by
    rcases List.mem_append.1 hx with hx | hx
    · exact hyw x hx
    · exact hw x hx
  have hvb : ∀ b, v'.ownBlock = some b → v.ownBlock = some b ∨ (w.heap.size ≤ b ∧ b < w'.heap.size) := fun b hb => by
    rcases h3 with h5 | h5
    · exact .inl (h5 ▸ hb)
    · have hlt := (h1.lt b hb).2
      rw [hb] at h5
      cases h5
      exact .inr ⟨Nat.le_refl _, hlt⟩
  obtain ⟨E, M'⟩ := M.grow (fz' := fz) h (fun h => h) h2 (fun b hb => ⟨hG b hb, hys.1 b hb⟩) hvb (n := xs'.length) h4 (fun hf => by rw [hfz hf]; exact Nat.le_refl _) (fun hf => by rw [List.length_append, hfz hf]; omega) hww
  refine ⟨v', w', hr, M', Step.grow M h h2 (fun b hb => hG b hb) hvb E, ys ++ zs, by rw [List.length_append]; exact h1, fun b hb => ?_, ?_, hww, fun b hb => ?_, fun he j y hy hj => ?_⟩
  · exact Gh.grow_self hb
  · show Alike _ _ _ ((xs' ++ news).flatMap AV.cells)
    rw [List.flatMap_append]
    exact (hya.append hal).keep E.A
  · rcases h3 with h3 | h3
    · exact hys.1 b (h3 ▸ hb)
    · rw [hb] at h3
      obtain rfl : b = w.heap.size := by simpa using h3
      exact M.sub_new (Nat.le_refl _)
  · have hyl : ys.length = xs'.length * sz := by rw [hya.1, flat_len xs' hyw]
    have old : ∀ {j : Nat} {y : Value}, (ys ++ zs)[j]? = some y → j % sz = 1 → (ys[j]? = some y) ∨ y = .slice none 0 0 := fun {j y} hy hj => by
      by_cases hlt : j < ys.length
      · rw [List.getElem?_append_left hlt] at hy; exact .inl hy
      · rw [List.getElem?_append_right (by omega)] at hy
        refine .inr (nil_kids (g := g) (w := w) hsub hal hw he hy ?_)
        rw [hyl]
        have : j = (j - xs'.length * sz) + xs'.length * sz := by omega
        rw [this, Nat.add_mul_mod_self_right] at hj
        exact hj
    rcases old hy hj with h5 | rfl
    · obtain ⟨⟨k, us, h6, h7⟩, h8⟩ := hys.2 he j y h5 hj
      have ne : ∀ {b : Nat}, y.ownBlock = some b → some b ≠ v.ownBlock := fun {b} hb h9 => by
        have := hys.1 b h9.symm
        rw [(h7 b hb).2.1] at this; cases this
      refine ⟨⟨k, us, ownsRow_ext h6 fun b hb => ?_, fun b hb => ?_⟩, fun i z b hz hi hzb hyb => ?_⟩
      · exact h2.block b (M.own b id (h7 b hb).1).1 (ne hb)
      · obtain ⟨h9, h10, h11⟩ := h7 b hb
        exact ⟨M.grow_sub (fun b hb => ⟨hG b hb, hys.1 b hb⟩) hvb h9 h10, h10, h11⟩
      · rcases old hz hi with h9 | rfl
        · exact h8 i z b h9 hi hzb hyb
        · cases hzb
    · exact ⟨KidV.nil, fun _ _ b _ _ _ h => by cases h⟩
theorem src_w {s : St} (M : Mem w g s.ob) {E U : Nat} {v : Value} {y : AV} (hv : ARel w g s.ob v y) {sz : Nat} {news : List AV} (h : srcOf std ty s E U y = some (sz, news)) : ∀ x ∈ news, x.cells.length = sz := by
  have cutw : ∀ {xs : List AV} {k : Int}, (∀ x ∈ xs, x.cells.length = sz) → ∀ x ∈ std.cut xs 0 k, x.cells.length = sz := fun hw x hx => by
    have : x ∈ (_ : List AV) := hx
    exact hw x (List.mem_of_mem_drop (List.mem_of_mem_take hx))
  unfold srcOf at h
  split at h
  · split at h
    · obtain ⟨rfl, rfl⟩ : 1 = sz ∧ std.bytesS _ = news := by simpa using h
      intro x hx
      obtain ⟨n, _, rfl⟩ := List.mem_map.1 (show x ∈ List.map _ _ from hx)
      rfl
    · cases h
  · split at h
    · obtain ⟨_, rfl⟩ : _ ∧ [] = news := by simpa using h
      intro x hx; cases hx
    · cases h
  · split at h
    · cases y with
      | slc sz' l =>
        obtain ⟨rfl, rfl⟩ : sz' = sz ∧ l = news := by simpa [elems] using h
        cases (show PRel w g.A v (.slc sz' l) from hv) with
        | nil => intro x hx; cases hx
        | slc b o c _ _ f hc hm hw hcell hrel => exact hw
      | row id ep =>
        obtain ⟨_, et, sz', fz, e, xs', h1, h2, h3⟩ := hv
        simp only [elems, h1] at h
        split at h
        · obtain ⟨rfl, rfl⟩ : sz' = sz ∧ xs' = news := by simpa using h
          exact (M.roww _ _ _ _ _ _ h1).2
        · cases h
      | rowk id ep k =>
        obtain ⟨_, et, sz', fz, e, xs', h1, h2, h3⟩ := hv
        simp only [elems, h1] at h
        split at h
        · obtain ⟨rfl, rfl⟩ : sz' = sz ∧ std.cut xs' 0 k = news := by simpa using h
          exact cutw (M.roww _ _ _ _ _ _ h1).2
        · cases h
      | _ => simp [elems] at h
    · cases h
theorem op_append_row (hT : TyOk P ty) {K : St → Tree} {o : Oper} {s : St} {a : Act} {w : World} {R : Exit → Act → World → Prop} (hs : Sim w0 g0 o0 N s a w) (hd : ∀ t, o.dst = some t → t < N)
    {x y : Operand} {args : Array Operand} {tys : Array TypeId} (ho : o.op = .call { callee := .builtin .append, args := args, argTypes := tys }) (ha : args.toList = [x, y]) {T U : Nat} (ht : tys.toList = [T, U])
    {ob : List Ob} (hob : ∀ g, Mem w g s.ob → Mem w g ob ∧ Ext w g s.ob w g ob ∧ Step w g s.ob w g ob) {id et sz ep : Nat} {fz : Bool} {xs xs' news : List AV} (h : ob[id]? = some (.row et sz fz ep xs))
    (hv : ∀ g, Mem w g s.ob → Slots w g s a → RowV w g id et sz (a.eval x) xs') (hfz : fz = true → xs' = xs) (hel : elOk ty T sz = true) (het : et = (tyLook T ty).elem)
    (hsrc : srcOf std ty s et U (ev s y) = some (sz, news)) (hsub : subOk et news = true) (hb : std.bnd xs' news)
    (hok : (K (St.put ⟨s.tm, ob.set id (.row et sz fz (ep + 1) (std.app xs' news))⟩ o.dst (.row id (ep + 1)))).ok P w0 g0 o0 N Q) : o.wp P a w (Good ty P w0 g0 o0 N Q K o.op w) R := by
  obtain ⟨g, M, hS, h0⟩ := hs.rel
  obtain ⟨M1, E1, S1⟩ := hob g M
  obtain ⟨e, hT1, hee, te, hes, hpos⟩ := el_facts hT hel
  have hyr := ev_rel hS y
  have hw := src_w M hyr hsrc
  have hes' : (tyLook et ty).size = sz := by rw [het, ← hee]; exact hes
  obtain ⟨d, zs, hu, hd', hzl, hal, hlen, hfc⟩ := src_rel hT M hyr hsrc hes' hpos hw
  obtain ⟨v', w', hr, M2, S2, R2⟩ := append_core hT (a := a) (s := s) M1 h (hv g M hS) hfz hel het hu hd' hzl hal hlen hfc hw hsub hb o.type
  have hargs : args = #[x, y] := by apply Array.ext'; simpa using ha
  have htys : tys = #[T, U] := by apply Array.ext'; simpa using ht
  subst hargs htys
  have hrun : (execOp a.eval o).run P w = .ok (.value v') w' := by
    obtain ⟨cs, hc⟩ := exec_builtin (P := P) (a := a) ho w
    rw [hc]
    show (do pure (Next.value (← Builtin.append_ #[T, U] o.type (Array.map a.eval #[x, y]))) : Sem Next).run P w = _
    refine run_valW ?_
    simpa using hr
  have hS1 : Slots w g ⟨s.tm, ob⟩ a := fun t => (hS t).ext E1
  have hs1 : Sim w0 g0 o0 N ⟨s.tm, ob⟩ a w := ⟨hs.defers, hs.size, g, M1, hS1, h0.trans S1⟩
  refine wp_ok hrun ⟨fun h => by simp [ho, quietW] at h, _, sim_put (s := ⟨s.tm, ob⟩) hs1 hS1 (h0.trans S1) M2 S2 hd ?_, hok⟩
  refine ⟨?_, et, sz, fz, ep + 1, xs' ++ news, List.getElem?_set_self (lt_of_some h), Nat.le_refl _, fun _ => R2⟩
  obtain ⟨ys, ho2, _⟩ := R2
  rcases ho2.2 with ⟨rfl, _⟩ | ⟨b, cap, cur, rfl, _⟩ <;> rfl
end
end Go.Proofs.YtaklahcbeldbhaaGreatDoor
namespace Go.Proofs.YtaklahcbeldbhaaGreatDoor
open Go.RowKit Go.Lib
section
variable {P : Program} {ty : Tys} {w0 : World} {g0 : Gh} {o0 : List Ob} {N : Nat} {Q : Ex → St → Prop} {w w' : World} {g g' : Gh} {ob ob' : List Ob}
theorem op_bytes (hT : TyOk P ty) {K : St → Tree} {o : Oper} {s : St} {a : Act} {w : World} {R : Exit → Act → World → Prop} (hs : Sim w0 g0 o0 N s a w) (hd : ∀ t, o.dst = some t → t < N)
    {src dst : Nat} {x : Operand} (ho : o.op = .convert src dst x) {b : ByteArray} (hx : ev s x = .val (.string b)) (h1 : (tyLook src ty).kd = 6) (h2 : (tyLook dst ty).sl = true) (h3 : (tyLook (tyLook dst ty).elem ty).kind = some .u8) (hb : b.size ≤ 1000000000)
    (hok : (K (St.put s o.dst (.slc 1 (std.bytesS b)))).ok P w0 g0 o0 N Q) : o.wp P a w (Good ty P w0 g0 o0 N Q K o.op w) R := by
  obtain ⟨g, M, hS, h0⟩ := hs.rel
  have hxr := ev_rel hS x
  rw [hx] at hxr
  have hs1 := (ty_kd hT h1 (by decide)).str h1
  have hs2 := (ty_sl hT h2).slice h2
  have hs3 := (ty_kind hT h3).int h3
  have hge := grownCap_ge w b.size 0 (tyLook dst ty).elem
  have hmx := grownCap_le_maxLen w b.size 0 (tyLook dst ty).elem (by unfold maxLen; omega)
  have hr := run_bytes_of_string (P := P) w src dst _ b hs1 hs2 hs3
  generalize hC : bytesRow b (grownCap w b.size 0 (tyLook dst ty).elem) = C at hr
  generalize grownCap w b.size 0 (tyLook dst ty).elem = c at *
  have hbel : Below w.heap.size w (w.drew.alloc (.cells C (tyLook dst ty).elem (C.size, C.size + 1))) := (Below.refl _ w).drew.alloc (Nat.le_refl _) _
  have M' := M.immNew hbel
  have hrun : (execOp a.eval o).run P w = .ok (.value (.slice (some ⟨w.heap.size, 0, none⟩) b.size c)) (w.drew.alloc (.cells C (tyLook dst ty).elem (C.size, C.size + 1))) := by
    simp only [execOp, ho, hxr.valEq]
    exact run_valW hr
  have hl : (std.bytesS b).length = b.size := by show (b.data.toList.map _).length = _; simp
  have hbb : std.isB (std.bytesS b) := fun x hx => by
    obtain ⟨n, _, rfl⟩ := List.mem_map.1 (show x ∈ b.data.toList.map _ from hx)
    exact ⟨n, rfl⟩
  have hcell : ∀ (j : Nat) u, (flatA (std.bytesS b))[j]? = some u → ∃ n : UInt8, C[j]? = some (.int .u8 n.toNat) ∧ u = .val (.int .u8 n.toNat) := fun j u hu => by
    rw [isB_flat hbb] at hu
    have hu : (b.data.toList.map fun x => AV.val (.int .u8 x.toNat))[j]? = some u := hu
    rw [List.getElem?_map, Option.map_eq_some_iff] at hu
    obtain ⟨n, hn, rfl⟩ := hu
    have hj := lt_of_some hn
    refine ⟨n, ?_, rfl⟩
    rw [← hC, bytesRow, Array.getElem?_append_left (by simpa using hj)]
    rw [Array.getElem?_map, ← Array.getElem?_toList, hn]; rfl
  have hA : ∀ j, (g.imm w (w.drew.alloc (.cells C (tyLook dst ty).elem (C.size, C.size + 1)))).A w.heap.size j := fun j => .inr ⟨Nat.le_refl _, by simp⟩
  refine wp_ok hrun ⟨fun _ => hbel, _, sim_put hs hS h0 M' (Step.immNew M hbel) hd ?_, hok⟩
  have := PRel.slc (w := w.drew.alloc (.cells C (tyLook dst ty).elem (C.size, C.size + 1))) (A := (g.imm w (w.drew.alloc (.cells C (tyLook dst ty).elem (C.size, C.size + 1)))).A) w.heap.size 0 c 1 (std.bytesS b) (fun j => (C[j]?).getD undef) (by rw [hl]; exact hge) hmx
    (fun x hx => by obtain ⟨n, rfl⟩ := hbb x hx; rfl) (fun j u hu => by
      obtain ⟨n, h4, _⟩ := hcell j u hu
      refine ⟨hA _, ?_⟩
      rw [Nat.zero_add, h4]
      exact (World.cell?_alloc_mark w.drew C _ _ j).trans h4) (fun j u hu => by
      obtain ⟨n, h4, rfl⟩ := hcell j u hu
      simp only [h4]
      exact PRel.val _ rfl)
  rw [hl] at this
  exact this
theorem mark_heap {b b' n : Nat} (h : b' ≠ b) : (w.freeze ⟨b, n, none⟩ 1).heap[b']? = w.heap[b']? := by
  unfold World.freeze
  rw [if_neg (by decide)]
  simp only [Array.getElem?_modify]
  rw [if_neg (by omega)]
theorem mark_cell {b n : Nat} (p : Addr) : (w.freeze ⟨b, n, none⟩ 1).cell? p = w.cell? p := by
  unfold World.freeze
  rw [if_neg (by decide)]
  unfold World.cell?
  simp only [Array.getElem?_modify]
  by_cases hb : b = p.block
  · rw [if_pos hb]
    cases w.heap[p.block]? with
    | none => rfl
    | some o => cases o <;> rfl
  · rw [if_neg hb]
theorem mark_mem (M : Mem w g ob) {id et sz e b : Nat} {fz : Bool} {xs : List AV} (h : ob[id]? = some (.row et sz fz e xs)) (hG : g.G b = some id) (n : Nat) :
    Mem (w.freeze ⟨b, n, none⟩ 1) g (ob.set id (.row et sz fz (e + 1) xs)) ∧ Step w g ob (w.freeze ⟨b, n, none⟩ 1) g (ob.set id (.row et sz fz (e + 1) xs)) := by
  have hid := lt_of_some h
  have hsz : (w.freeze ⟨b, n, none⟩ 1).heap.size = w.heap.size := by
    unfold World.freeze
    rw [if_neg (by decide)]
    simp
  have E : Ext w g ob (w.freeze ⟨b, n, none⟩ 1) g (ob.set id (.row et sz fz (e + 1) xs)) := by
    refine ⟨fun b o h => ⟨h, mark_cell _⟩, fun _ _ => rfl, fun i hi => ?_, fun i hi => ?_, fun i et' sz' fz2 e2 xs2 hi => ?_, fun b' i _ _ => ⟨rfl, fun _ _ h => h⟩⟩
    · have : i ≠ id := by rintro rfl; rw [h] at hi; exact hi
      rw [List.getElem?_set_ne (Ne.symm this)]; exact hi
    · have : i ≠ id := by rintro rfl; rw [h] at hi; exact hi
      rw [List.getElem?_set_ne (Ne.symm this)]; exact hi
    · by_cases e' : i = id
      · subst e'
        rw [h] at hi
        obtain ⟨rfl, rfl, rfl, rfl, rfl⟩ : et = et' ∧ sz = sz' ∧ fz = fz2 ∧ e = e2 ∧ xs = xs2 := by simpa using hi
        exact ⟨fz, e + 1, xs, List.getElem?_set_self hid, by omega, fun he => by omega⟩
      · refine ⟨fz2, e2, xs2, by rw [List.getElem?_set_ne (Ne.symm e')]; exact hi, Nat.le_refl _, fun _ => .inl ⟨rfl, fun b' hG' => ⟨hG', mark_heap ?_⟩⟩⟩
        rintro rfl
        rw [hG] at hG'
        exact e' (by simpa using hG'.symm)
  refine ⟨⟨fun i cs hi => ?_, fun i cs hi j u hj => ?_, fun i y hi => ?_, fun b i hG => ⟨by rw [hsz]; exact (M.own b i hG).1, by rw [List.length_set]; exact (M.own b i hG).2⟩, fun b' o hA => ⟨by rw [hsz]; exact (M.imm b' o hA).1, fun i hGi hs => ?_⟩, fun i et' sz' fz2 e2 xs2 hi => ?_, fun b' hs => ?_, M.uniq⟩,
    ⟨rfl, rfl, rfl, by rw [hsz]; exact Nat.le_refl _, fun b' _ hN => mark_heap (by rintro rfl; rw [hG] at hN; cases hN), fun b' i h => .inl ⟨i, h⟩, fun b' o h => .inl h, E, by simp⟩⟩
  · have e' : i ≠ id := by rintro rfl; rw [List.getElem?_set_self hid] at hi; cases hi
    rw [List.getElem?_set_ne (Ne.symm e')] at hi
    obtain ⟨h1, cur, T, h2, h3⟩ := M.box i cs hi
    refine ⟨h1, cur, T, ?_, h3.ext E⟩
    rw [mark_heap]
    · exact h2
    · intro hb
      rw [hb, hG] at h1
      exact e' (by simpa using h1.symm)
  · have e' : i ≠ id := by rintro rfl; rw [List.getElem?_set_self hid] at hi; cases hi
    rw [List.getElem?_set_ne (Ne.symm e')] at hi
    obtain ⟨h1, y, h2, h3⟩ := M.fbox i cs hi j u hj
    exact ⟨h1, y, by rw [mark_cell]; exact h2, h3.keep E.A⟩
  · have e' : i ≠ id := by rintro rfl; rw [List.getElem?_set_self hid] at hi; cases hi
    rw [List.getElem?_set_ne (Ne.symm e')] at hi
    obtain ⟨h1, h2⟩ := M.iter i y hi
    refine ⟨h1, h2.at E.A ?_⟩
    rw [mark_heap]
    · intro hb
      rw [hb, hG] at h1
      exact e' (by simpa using h1.symm)
  · obtain ⟨et', sz', e2, xs2, h3, h4⟩ := (M.imm b' o hA).2 i hGi hs
    by_cases e' : i = id
    · subst e'
      rw [h] at h3
      obtain ⟨rfl, rfl, rfl, rfl, rfl⟩ : et = et' ∧ sz = sz' ∧ fz = true ∧ e = e2 ∧ xs = xs2 := by simpa using h3
      exact ⟨et, sz, e + 1, xs, List.getElem?_set_self hid, h4⟩
    · exact ⟨et', sz', e2, xs2, by rw [List.getElem?_set_ne (Ne.symm e')]; exact h3, h4⟩
  · by_cases e' : i = id
    · subst e'
      rw [List.getElem?_set_self hid] at hi
      cases hi
      exact M.roww _ _ _ _ _ _ h
    · rw [List.getElem?_set_ne (Ne.symm e')] at hi
      exact M.roww i _ _ _ _ _ hi
  · obtain ⟨i, et', sz', fz2, e2, xs2, h3, h4⟩ := M.nsub b' hs
    by_cases e' : i = id
    · subst e'
      exact ⟨i, _, _, _, _, _, h3, List.getElem?_set_self hid⟩
    · exact ⟨i, et', sz', fz2, e2, xs2, h3, by rw [List.getElem?_set_ne (Ne.symm e')]; exact h4⟩
theorem op_mark (hT : TyOk P ty) {K : St → Tree} {o : Oper} {s : St} {a : Act} {w : World} {R : Exit → Act → World → Prop} (hs : Sim w0 g0 o0 N s a w) (hd : ∀ t, o.dst = some t → t < N)
    {src : Nat} {x : Operand} (ho : o.op = .convert src src x) {id et e : Nat} {xs : List AV} (hx : ev s x = .row id e) (hob : s.ob[id]? = some (.row et 1 false e xs)) (h2 : (tyLook src ty).sl = true) (h3 : (tyLook (tyLook src ty).elem ty).kind = some .u8) (hm : xs ≠ [])
    (hok : (K (St.put ⟨s.tm, s.ob.set id (.row et 1 true (e + 1) xs)⟩ o.dst (.slc 1 xs))).ok P w0 g0 o0 N Q) : o.wp P a w (Good ty P w0 g0 o0 N Q K o.op w) R := by
  obtain ⟨g, M, hS, h0⟩ := hs.rel
  have hxr := ev_rel hS x
  rw [hx] at hxr
  obtain ⟨_, et', sz', fz', e', xs', h4, _, h5⟩ := hxr
  rw [hob] at h4
  cases h4
  have hrow := h5 rfl
  obtain ⟨ys, hown, hG, hal, hw, hsub⟩ := h5 rfl
  have hs2 := (ty_sl hT h2).slice h2
  have hs3 := (ty_kind hT h3).int h3
  obtain ⟨g1, M1, E1, hr1, hL1⟩ := freeze_row M hob hrow (Nat.le_refl _)
  obtain ⟨hlen, hnil | ⟨b, cap, cur, hv, hle, hheap, hrest⟩⟩ := hown
  · exfalso
    apply hm
    exact List.eq_nil_of_length_eq_zero hnil.2
  have hGb : g.G b = some id := hG b (by rw [hv]; rfl)
  have hG1 : g1.G b = some id := by
    have := (E1.row id et 1 false e xs hob)
    obtain ⟨fz1, e1, xs1, k1, k2, k3⟩ := this
    rw [List.getElem?_set_self (lt_of_some hob)] at k1
    obtain ⟨rfl, rfl, rfl⟩ : true = fz1 ∧ e = e1 ∧ xs = xs1 := by simpa using k1
    exact (k3 rfl).G hGb
  have hob1 : (s.ob.set id (.row et 1 true e xs))[id]? = some (.row et 1 true e xs) := List.getElem?_set_self (lt_of_some hob)
  obtain ⟨M2, S2⟩ := mark_mem M1 hob1 hG1 cur.size
  rw [List.set_set] at M2 S2
  have hrun : (execOp a.eval o).run P w = .ok (.value (a.eval x)) (w.freeze ⟨b, cur.size, none⟩ 1) := by
    simp only [execOp, ho, hv]
    refine run_valW ?_
    have hsh : w.shape? b = some (et, cur.size) := by unfold World.shape?; rw [hheap]
    simp [convert, run_underlying hs2, run_underlying hs3, markStringish, hsh]
  have hst := (Step.ghost (ob' := s.ob.set id (.row et 1 true e xs)) E1 hL1).trans S2
  refine wp_ok hrun ⟨fun hq => ?_, _, sim_put (g' := g1) hs hS h0 M2 hst hd ?_, hok⟩
  · simp [ho, quietW, h2] at hq
  · have : PRel (w.freeze ⟨b, cur.size, none⟩ 1) g1.A (a.eval x) (.slc 1 xs) := hr1.keep fun b' o' h => ⟨h, mark_cell _⟩
    exact this
theorem op_range (hT : TyOk P ty) {K : St → Tree} {o : Oper} {s : St} {a : Act} {w : World} {R : Exit → Act → World → Prop} (hs : Sim w0 g0 o0 N s a w) (hd : ∀ t, o.dst = some t → t < N)
    {T : Nat} {x : Operand} (ho : o.op = .range T x) {b : ByteArray} (hx : ev s x = .val (.string b)) (h1 : (tyLook T ty).kd = 6)
    (hok : (K (St.put ⟨s.tm, s.ob ++ [.iter (.str b 0)]⟩ o.dst (.iter s.ob.length))).ok P w0 g0 o0 N Q) : o.wp P a w (Good ty P w0 g0 o0 N Q K o.op w) R := by
  obtain ⟨g, M, hS, h0⟩ := hs.rel
  have hxr := ev_rel hS x
  rw [hx] at hxr
  have hs1 := (ty_kd hT h1 (by decide)).str h1
  have hr : (execOp a.eval o).run P w = .ok (.value (.pointer (some ⟨w.heap.size, 0, none⟩))) (w.alloc (.stringIter b 0)) := by
    simp only [execOp, ho, hxr.valEq]
    refine run_valW ?_
    simp only [Instr.range, Sem.run_bind, run_underlying hs1, Result.andThen_ok, Sem.run_pure, run_newObj]
    rfl
  have M' := M.new (.stringIter b 0) (.iter (.str b 0)) (fun cs h => by cases h) (fun cs h => by cases h) (fun y h => by cases h; rfl) (fun et sz fz e xs h => by cases h)
  refine wp_ok hr ⟨fun _ => (Below.refl _ w).alloc (Nat.le_refl _) _, _, sim_put hs hS h0 M' (Step.new M _ _) hd ?_, hok⟩
  refine ⟨false, by simp [Gh.new, itVal], ?_⟩
  rw [get_new]; rfl
theorem iter_set (M : Mem w g ob) {id : Nat} {x x' : It} {o' : Obj} (h : ob[id]? = some (.iter x)) (hkk : ∀ {k : Bool}, isIt k (some (.iter x)) → isIt k (some (.iter x'))) (hI : ItRel w g.A x' (some o')) :
    Mem { w with heap := w.heap.setIfInBounds (g.loc id) o' } g (ob.set id (.iter x')) ∧ Step w g ob { w with heap := w.heap.setIfInBounds (g.loc id) o' } g (ob.set id (.iter x')) := by
  have hid := lt_of_some h
  obtain ⟨hG, hh⟩ := M.iter id x h
  have hlt := (M.own _ _ hG).1
  have other : ∀ {k : Nat}, k ≠ g.loc id → ({ w with heap := w.heap.setIfInBounds (g.loc id) o' } : World).heap[k]? = w.heap[k]? := fun hk => by
    show (w.heap.setIfInBounds _ _)[_]? = _
    rw [Array.getElem?_setIfInBounds_ne (Ne.symm hk)]
  have ne : ∀ {k i : Nat}, g.G k = some i → i ≠ id → k ≠ g.loc id := by
    rintro k i h1 h2 rfl
    rw [hG] at h1
    exact h2 (by simpa using h1.symm)
  have hA : ∀ k o, g.A k o → k ≠ g.loc id := by
    rintro k o h1 rfl
    obtain ⟨et, sz, e, xs, h2, _⟩ := (M.imm _ _ h1).2 id hG (M.nosub hG fun _ _ _ _ _ h3 => by rw [h] at h3; cases h3)
    rw [h] at h2; cases h2
  have E : Ext w g ob { w with heap := w.heap.setIfInBounds (g.loc id) o' } g (ob.set id (.iter x')) := by
    refine ⟨fun k o h1 => ⟨h1, World.cell?_of_block (w := w) (other (hA k o h1))⟩, fun _ _ => rfl, fun i hi => ?_, fun i hi => ?_, fun i et sz fz e xs hi => ?_, fun _ _ _ _ => ⟨rfl, fun _ _ h => h⟩⟩
    · have : i ≠ id := by rintro rfl; rw [h] at hi; exact hi
      rw [List.getElem?_set_ne (Ne.symm this)]; exact hi
    · by_cases e : i = id
      · subst e; rw [List.getElem?_set_self hid]; rw [h] at hi; exact hkk hi
      · rw [List.getElem?_set_ne (Ne.symm e)]; exact hi
    · have : i ≠ id := by rintro rfl; rw [h] at hi; cases hi
      exact ⟨fz, e, xs, by rw [List.getElem?_set_ne (Ne.symm this)]; exact hi, Nat.le_refl _, fun _ => .inl ⟨rfl, fun k hk => ⟨hk, other (ne hk this)⟩⟩⟩
  have hsz : ({ w with heap := w.heap.setIfInBounds (g.loc id) o' } : World).heap.size = w.heap.size := by show (w.heap.setIfInBounds _ _).size = _; simp
  refine ⟨⟨fun i cs hi => ?_, fun i cs hi j u hj => ?_, fun i y hi => ?_, fun k i hk => by rw [hsz, List.length_set]; exact M.own k i hk, fun k o h1 => ?_, fun i et sz fz e xs hi => ?_, fun b hs => ?_, M.uniq⟩,
    ⟨rfl, rfl, rfl, by rw [hsz]; exact Nat.le_refl _, fun k _ hk => other (fun e => by rw [e, hG] at hk; cases hk), fun k i hk => .inl ⟨i, hk⟩, fun _ _ h => .inl h, E, by simp⟩⟩
  · have e' : i ≠ id := by rintro rfl; rw [List.getElem?_set_self hid] at hi; cases hi
    rw [List.getElem?_set_ne (Ne.symm e')] at hi
    obtain ⟨h1, cur, T, h2, h3⟩ := M.box i cs hi
    exact ⟨h1, cur, T, (other (ne h1 e')).trans h2, h3.ext E⟩
  · have e' : i ≠ id := by rintro rfl; rw [List.getElem?_set_self hid] at hi; cases hi
    rw [List.getElem?_set_ne (Ne.symm e')] at hi
    obtain ⟨h1, y, h2, h3⟩ := M.fbox i cs hi j u hj
    exact ⟨h1, y, (E.A _ _ h1).2.trans h2, h3.keep E.A⟩
  · by_cases e' : i = id
    · subst e'
      rw [List.getElem?_set_self hid] at hi
      obtain rfl : x' = y := by simpa using hi
      exact ⟨hG, hI.at E.A (by show (w.heap.setIfInBounds _ _)[_]? = _; rw [Array.getElem?_setIfInBounds_self, if_pos hlt])⟩
    · rw [List.getElem?_set_ne (Ne.symm e')] at hi
      obtain ⟨h1, h2⟩ := M.iter i y hi
      exact ⟨h1, h2.at E.A (other (ne h1 e'))⟩
  · obtain ⟨h2, h3⟩ := M.imm k o h1
    refine ⟨by rw [hsz]; exact h2, fun i hk hs => ?_⟩
    obtain ⟨et, sz, e, xs, h4, h5⟩ := h3 i hk hs
    have e' : i ≠ id := by rintro rfl; rw [h] at h4; cases h4
    exact ⟨et, sz, e, xs, by rw [List.getElem?_set_ne (Ne.symm e')]; exact h4, h5⟩
  · have e' : i ≠ id := by rintro rfl; rw [List.getElem?_set_self hid] at hi; cases hi
    rw [List.getElem?_set_ne (Ne.symm e')] at hi
    exact M.roww i et sz fz e xs hi
  · obtain ⟨i, et, sz, fz, e, xs, h3, h4⟩ := M.nsub b hs
    have e' : i ≠ id := by rintro rfl; rw [h] at h4; cases h4
    exact ⟨i, et, sz, fz, e, xs, h3, by rw [List.getElem?_set_ne (Ne.symm e')]; exact h4⟩
theorem op_next {K : St → Tree} {o : Oper} {s : St} {a : Act} {w : World} {R : Exit → Act → World → Prop} (hs : Sim w0 g0 o0 N s a w) (hd : ∀ t, o.dst = some t → t < N)
    {it : Operand} (ho : o.op = .next it true) {id : Nat} (hi : ev s it = .iter id) {b : ByteArray} {pos : Nat} (hob : s.ob[id]? = some (.iter (.str b pos)))
    (ht : std.itmore b pos = true → (K (St.put ⟨s.tm, s.ob.set id (.iter (.str b (std.itp b pos)))⟩ o.dst (.tup [.kb true, .val (.int .i64 (std.toI pos)), .val (.int .i32 (std.itr b pos))]))).ok P w0 g0 o0 N Q)
    (hf : std.itmore b pos = false → (K (St.put s o.dst (.tup [.kb false]))).ok P w0 g0 o0 N Q) : o.wp P a w (Good ty P w0 g0 o0 N Q K o.op w) R := by
  obtain ⟨g, M, hS, h0⟩ := hs.rel
  have hir := ev_rel hS it
  rw [hi] at hir
  have hv : a.eval it = .pointer (some ⟨g.loc id, 0, none⟩) := by
    obtain ⟨k, h1, h2⟩ := hir
    rw [hob] at h2
    obtain rfl : k = false := h2
    exact h1
  obtain ⟨hG, hh⟩ := M.iter id _ hob
  have hh : w.heap[g.loc id]? = some (.stringIter b pos) := hh
  have hget : (getObj (g.loc id)).run P w = .ok (.stringIter b pos) w := by simp [getObj, Sem.run, hh]
  by_cases hlt : pos < b.size
  · obtain ⟨M', S'⟩ := iter_set M (x' := .str b (std.itp b pos)) (o' := .stringIter b (std.itp b pos)) hob (fun h => h) rfl
    have hr : (execOp a.eval o).run P w = .ok (.value (.tuple #[.bool true, .int .i64 pos, .int .i32 ((Utf8.decode b pos).1 : Int)])) { w with heap := w.heap.setIfInBounds (g.loc id) (.stringIter b (std.itp b pos)) } := by
      simp only [execOp, ho, hv]
      refine run_valW ?_
      have hset : (setObj (g.loc id) (.stringIter b (pos + (Utf8.decode b pos).2))).run P w = .ok () { w with heap := w.heap.setIfInBounds (g.loc id) (.stringIter b (std.itp b pos)) } := by
        simp only [setObj, Sem.run, hh]; rfl
      simp only [Instr.next, Sem.run_bind, hget, Result.andThen_ok, hlt, if_true, hset, Sem.run_pure, goInt]
    refine wp_ok hr ⟨fun h => by simp [ho, quietW] at h, _, sim_put hs hS h0 M' S' hd ?_, ht (by show decide (pos < b.size) = true; simp [hlt])⟩
    refine ⟨_, rfl, rfl, fun j y u hy hu => ?_⟩
    match j, hy, hu with
    | 0, hy, hu =>
      obtain rfl : Value.bool true = y := by simpa using hy
      obtain rfl : AV.kb true = u := by simpa using hu
      exact (rfl : Value.bool true = .bool true)
    | 1, hy, hu =>
      obtain rfl : Value.int .i64 pos = y := by simpa using hy
      obtain rfl : AV.val (.int .i64 (std.toI pos)) = u := by simpa using hu
      exact PRel.val _ rfl
    | 2, hy, hu =>
      obtain rfl : Value.int .i32 ((Utf8.decode b pos).1 : Int) = y := by simpa using hy
      obtain rfl : AV.val (.int .i32 (std.itr b pos)) = u := by simpa using hu
      exact PRel.val _ rfl
    | j + 3, hy, _ => simp at hy
  · have hr : (execOp a.eval o).run P w = .ok (.value (.tuple #[.bool false])) w := by
      simp only [execOp, ho, hv]
      refine run_valW ?_
      simp only [Instr.next, Sem.run_bind, hget, Result.andThen_ok, hlt, if_false, Sem.run_pure]
    refine wp_ok hr ⟨fun h => by simp [ho, quietW] at h, _, sim_put hs hS h0 M Step.refl hd (x := .tup [.kb false]) ?_, hf (by show decide (pos < b.size) = false; simp [hlt])⟩
    refine ⟨_, rfl, rfl, fun j y u hy hu => ?_⟩
    match j, hy, hu with
    | 0, hy, hu =>
      obtain rfl : Value.bool false = y := by simpa using hy
      obtain rfl : AV.kb false = u := by simpa using hu
      exact (rfl : Value.bool false = .bool false)
    | j + 1, hy, _ => simp at hy
end
end Go.Proofs.YtaklahcbeldbhaaGreatDoor
