/-
  Parts of the proof, joined: Axa Axb Ar As At Au Av Aw Ty Ax Ay Az. Conditions: as each theorem says.
-/
import Derived.Test.YtblafdmmebiagaaQA08
import Derived.Laws.Sem
import Derived.Test.YtblafdmmebiagaaProg
namespace Go.Proofs.Ytblafdmmebiagaa
open Go.RowKit Go.Lib
abbrev Eqs := List (AV × AV)
def both : Option Eqs → Option Eqs → Option Eqs
  | some a, some b => some (a ++ b)
  | _, _ => none
def ren0 (ob ob' : List Ob) (ρ : List (Option Nat)) (x x' : AV) : Option Eqs :=
  match x' with
  | .dead => some []
  | .box j off => match ρ[j]? with
    | some (some i) => some [(x, .box i off)]
    | _ => none
  | .iter j => match ρ[j]? with
    | some (some i) => some [(x, .iter i)]
    | _ => none
  | .row j e' => match ob'[j]? with
    | some (.row _ _ _ e2 xs) => if e2 = e' then (match ρ[j]? with
      | some (some i) => (match ob[i]? with
        | some (.row _ _ _ e _) => some [(x, .row i e)]
        | _ => none)
      | some none => some [(x, .val (.slice none 0 0)), (.slc 0 xs, .slc 0 [])]
      | none => none) else none
    | _ => none
  | .val (.bool b) => match x with
    | .kb c => some [(.kb c, .kb b)]
    | _ => some [(x, .val (.bool b))]
  | .val v => some [(x, .val v)]
  | .slc sz xs => some [(x, .slc sz xs)]
  | .ref cs => some [(x, .ref cs)]
  | .opt y => some [(x, .opt y)]
  | .kb b => some [(x, .kb b)]
  | _ => none
def renL (ob ob' : List Ob) (ρ : List (Option Nat)) : List AV → List AV → Option Eqs
  | [], [] => some []
  | x :: r, x' :: r' => both (ren0 ob ob' ρ x x') (renL ob ob' ρ r r')
  | _, _ => none
def ren1 (ob ob' : List Ob) (ρ : List (Option Nat)) (x x' : AV) : Option Eqs :=
  match x' with
  | .agg cs' => match x with
    | .agg cs => renL ob ob' ρ cs cs'
    | _ => none
  | _ => ren0 ob ob' ρ x x'
def renT (s s' : St) (ρ : List (Option Nat)) : List (Nat × AV) → Option Eqs
  | [] => some []
  | (t, x') :: r => both (ren1 s.ob s'.ob ρ (lk t s.tm) x') (renT s s' ρ r)
def renOb (ob ob' : List Ob) (ρ : List (Option Nat)) (i : Option Nat) (o' : Ob) : Option Eqs :=
  match i with
  | some i => match o', ob[i]? with
    | .box cs', some (.box cs) => renL ob ob' ρ cs cs'
    | .fbox cs', some (.fbox cs) => some [(.slc 0 cs, .slc 0 cs')]
    | .row et sz fz _ xs', some (.row et2 sz2 fz2 _ xs) => if et = et2 ∧ sz = sz2 ∧ (fz2 = true → fz = true) then some [(.slc 0 xs, .slc 0 xs')] else none
    | .iter b p, some (.iter b2 p2) => some [(.val (.string b2), .val (.string b)), (.box 0 p2, .box 0 p)]
    | _, _ => none
  | none => match o' with
    | .row _ sz fz _ xs => if 0 < sz ∧ fz = false then some [(.slc 0 xs, .slc 0 [])] else none
    | _ => none
def renOs (ob ob' : List Ob) (ρ : List (Option Nat)) : List (Option Nat) → List Ob → Option Eqs
  | [], [] => some []
  | i :: r, o :: r' => both (renOb ob ob' ρ i o) (renOs ob ob' ρ r r')
  | _, _ => none
def headR (o0 ob ob' : List Ob) (ρ : List (Option Nat)) : Bool := (List.range o0.length).all fun j => ρ[j]? == some (some j) && (match o0[j]?, ob[j]?, ob'[j]? with
  | some (.row _ _ _ e0 _), some (.row _ _ _ e _), some (.row _ _ _ e' _) => e == e' || decide (e0 < e')
  | _, _, _ => true)
def seen (o0 : List Ob) (ρ : List (Option Nat)) (s s' : St) : Option Eqs :=
  if onceR ρ = true ∧ headR o0 s.ob s'.ob ρ = true ∧ o0.length ≤ ρ.length then both (renT s s' ρ s'.tm) (renOs s.ob s'.ob ρ ρ s'.ob) else none
def AllEq : Eqs → Prop
  | [] => True
  | (a, b) :: r => a = b ∧ AllEq r
theorem allEq_append {a b : Eqs} : AllEq (a ++ b) ↔ AllEq a ∧ AllEq b := by
  induction a with
  | nil => simp [AllEq]
  | cons x r ih => obtain ⟨u, v⟩ := x; simp [AllEq, ih, and_assoc]
theorem both_some {x y : Option Eqs} {l : Eqs} (h : both x y = some l) (hl : AllEq l) : (∃ a, x = some a ∧ AllEq a) ∧ ∃ b, y = some b ∧ AllEq b := by
  cases x with
  | none => cases h
  | some a =>
    cases y with
    | none => cases h
    | some b =>
      obtain rfl : a ++ b = l := by simpa [both] using h
      exact ⟨⟨a, rfl, (allEq_append.1 hl).1⟩, b, rfl, (allEq_append.1 hl).2⟩
def Gh.ren (g : Gh) (ρ : List (Option Nat)) : Gh := ⟨g.A, fun b => (g.G b).bind (invR ρ), fun j => match ρ[j]? with | some (some i) => g.loc i | _ => 0, fun b => g.sub b && ((g.G b).bind (invR ρ)).isSome⟩
section
variable {w : World} {g : Gh} {ob ob' : List Ob} {ρ : List (Option Nat)}
theorem invR_get {i j : Nat} (h : invR ρ i = some j) : ρ[j]? = some (some i) := by
  have := List.find?_some h
  simpa using this
theorem onceR_get (h : onceR ρ = true) {i j : Nat} (hj : ρ[j]? = some (some i)) : invR ρ i = some j := by
  have := List.all_eq_true.1 h j (List.mem_range.2 (lt_of_some hj))
  rw [hj] at this
  simpa using this
theorem ren_loc {i j : Nat} (hj : ρ[j]? = some (some i)) : (g.ren ρ).loc j = g.loc i := by simp [Gh.ren, hj]
theorem ren_G (h : onceR ρ = true) {i j b : Nat} (hj : ρ[j]? = some (some i)) (hG : g.G b = some i) : (g.ren ρ).G b = some j := by
  simp [Gh.ren, hG, onceR_get h hj]
theorem ren_Gof {j b : Nat} (hG : (g.ren ρ).G b = some j) : ∃ i, ρ[j]? = some (some i) ∧ g.G b = some i := by
  simp only [Gh.ren, Option.bind_eq_some_iff] at hG
  obtain ⟨i, h1, h2⟩ := hG
  exact ⟨i, invR_get h2, h1⟩
theorem ren_sub (h : onceR ρ = true) {i j b : Nat} (hj : ρ[j]? = some (some i)) (hG : g.G b = some i) : (g.ren ρ).sub b = g.sub b := by
  simp [Gh.ren, hG, onceR_get h hj]
theorem renOs_get : ∀ (r : List (Option Nat)) (os : List Ob) (l : Eqs), renOs ob ob' ρ r os = some l → AllEq l → r.length = os.length ∧ ∀ (j : Nat) i o, r[j]? = some i → os[j]? = some o → ∃ l, renOb ob ob' ρ i o = some l ∧ AllEq l
  | [], [], _, _, _ => ⟨rfl, fun j i o h => by simp at h⟩
  | [], _ :: _, _, h, _ => by cases h
  | _ :: _, [], _, h, _ => by cases h
  | i :: r, o :: os, l, h, hl => by
    obtain ⟨h1, b, h2, hb⟩ := both_some h hl
    obtain ⟨hn, ih⟩ := renOs_get r os b h2 hb
    refine ⟨by simp [hn], fun j i' o' hi ho => ?_⟩
    cases j with
    | zero =>
      obtain rfl : i = i' := by simpa using hi
      obtain rfl : o = o' := by simpa using ho
      exact h1
    | succ j => exact ih j i' o' (by simpa using hi) (by simpa using ho)
theorem renL_get : ∀ (r r' : List AV) (l : Eqs), renL ob ob' ρ r r' = some l → AllEq l → r.length = r'.length ∧ ∀ (j : Nat) x x', r[j]? = some x → r'[j]? = some x' → ∃ l, ren0 ob ob' ρ x x' = some l ∧ AllEq l
  | [], [], _, _, _ => ⟨rfl, fun j i o h => by simp at h⟩
  | [], _ :: _, _, h, _ => by cases h
  | _ :: _, [], _, h, _ => by cases h
  | i :: r, o :: os, l, h, hl => by
    obtain ⟨h1, b, h2, hb⟩ := both_some h hl
    obtain ⟨hn, ih⟩ := renL_get r os b h2 hb
    refine ⟨by simp [hn], fun j i' o' hi ho => ?_⟩
    cases j with
    | zero =>
      obtain rfl : i = i' := by simpa using hi
      obtain rfl : o = o' := by simpa using ho
      exact h1
    | succ j => exact ih j i' o' (by simpa using hi) (by simpa using ho)
def Fits (ob ob' : List Ob) (ρ : List (Option Nat)) : Prop := ρ.length = ob'.length ∧ ∀ (j : Nat) i o, ρ[j]? = some i → ob'[j]? = some o → ∃ l, renOb ob ob' ρ i o = some l ∧ AllEq l
theorem Fits.at_ (h : Fits ob ob' ρ) {i j : Nat} (hj : ρ[j]? = some (some i)) : ∃ o, ob'[j]? = some o ∧ ∃ l, renOb ob ob' ρ (some i) o = some l ∧ AllEq l := by
  have hl : j < ob'.length := h.1 ▸ lt_of_some hj
  exact ⟨_, List.getElem?_eq_getElem hl, h.2 j _ _ hj (List.getElem?_eq_getElem hl)⟩
theorem Fits.isB (h : Fits ob ob' ρ) {i j : Nat} (hj : ρ[j]? = some (some i)) (hb : isBox ob[i]?) : isBox ob'[j]? := by
  obtain ⟨o, ho', l, h1, _⟩ := h.at_ hj
  rw [ho']
  cases hob : ob[i]? with
  | none => rw [hob] at hb; exact hb.elim
  | some q =>
    rw [hob] at hb
    cases q <;> first | exact hb.elim | (cases o <;> first | trivial | (simp [renOb, hob] at h1; done))
theorem Fits.isI (h : Fits ob ob' ρ) {i j : Nat} (hj : ρ[j]? = some (some i)) (hb : isIt ob[i]?) : isIt ob'[j]? := by
  obtain ⟨o, ho', l, h1, _⟩ := h.at_ hj
  rw [ho']
  cases hob : ob[i]? with
  | none => rw [hob] at hb; exact hb.elim
  | some q =>
    rw [hob] at hb
    cases q <;> first | exact hb.elim | (cases o <;> first | trivial | (simp [renOb, hob] at h1; done))
theorem Fits.row (h : Fits ob ob' ρ) {i j et sz e : Nat} {fz : Bool} {xs : List AV} (hj : ρ[j]? = some (some i)) (hb : ob[i]? = some (.row et sz fz e xs)) : ∃ fz' e', ob'[j]? = some (.row et sz fz' e' xs) ∧ (fz = true → fz' = true) := by
  have hl : j < ob'.length := h.1 ▸ lt_of_some hj
  obtain ⟨l, h1, h2⟩ := h.2 j _ _ hj (List.getElem?_eq_getElem hl)
  rw [List.getElem?_eq_getElem hl]
  cases ho : ob'[j] with
  | row et' sz' fz' e' xs' =>
    simp only [renOb, ho, hb] at h1
    split at h1
    · rename_i hk
      obtain ⟨rfl, rfl, hk⟩ := hk
      cases h1
      obtain ⟨h3, _⟩ := h2
      cases h3
      exact ⟨fz', e', rfl, hk⟩
    · cases h1
  | _ => simp [renOb, ho, hb] at h1
theorem ren0_rel (hF : Fits ob ob' ρ) (ho : onceR ρ = true) {v : Value} {x x' : AV} {l : Eqs} (h : ARel0 w g ob v x) (he : ren0 ob ob' ρ x x' = some l) (hl : AllEq l) : ARel0 w (g.ren ρ) ob' v x' := by
  have one : ∀ y, some [(x, y)] = some l → x = y := fun y hy => by cases hy; exact hl.1
  cases x' with
  | dead => trivial
  | box j off =>
    simp only [ren0] at he
    split at he
    · rename_i i hj
      cases one _ he
      exact ⟨by rw [ren_loc hj]; exact h.1, hF.isB hj h.2⟩
    · cases he
  | iter j =>
    simp only [ren0] at he
    split at he
    · rename_i i hj
      cases one _ he
      exact ⟨by rw [ren_loc hj]; exact h.1, hF.isI hj h.2⟩
    · cases he
  | row j e' =>
    simp only [ren0] at he
    split at he
    · rename_i et' sz' fz' e2 xs' hob'
      split at he
      · rename_i hee
        subst hee
        split at he
        · rename_i i hj
          split at he
          · rename_i et sz fz e xs hob
            cases one _ he
            obtain ⟨h1, et3, sz3, fz3, e3, xs3, h2, h3, h4⟩ := h
            rw [hob] at h2; cases h2
            obtain ⟨fz4, e4, h5, h6⟩ := hF.row hj hob
            rw [hob'] at h5; cases h5
            refine ⟨h1, _, _, _, _, _, hob', Nat.le_refl _, fun _ => ?_⟩
            obtain ⟨ys, h7, h8, h9, h10, h11⟩ := h4 rfl
            exact ⟨ys, h7, fun b hb => ren_G ho hj (h8 b hb), h9, h10, h11.ext h8 fun b hb => ⟨ren_G ho hj hb, ren_sub ho hj hb, fun _ => ⟨rfl, fun _ h => h⟩⟩⟩
          · cases he
        · rename_i hj
          cases he
          obtain ⟨h1, h2, _⟩ := hl
          subst h1
          cases h2
          cases (show v = _ from ARel.valEq (g := g) (w := w) (ob := ob) h)
          refine ⟨rfl, _, _, _, _, _, hob', Nat.le_refl _, fun _ => ⟨[], World.ownsRow_nil _ _ _ _, (fun b h => by cases h), Alike.nil, (fun x h => by cases h), (fun b h => by cases h), (fun _ j y h => by simp at h)⟩⟩
        · cases he
      · cases he
    · cases he
  | val u =>
    have gen : x = .val u → ARel0 w (g.ren ρ) ob' v (.val u) := fun e => by subst e; exact h
    cases u with
    | bool b =>
      simp only [ren0] at he
      split at he
      · rename_i c
        cases he
        obtain ⟨h1, _⟩ := hl
        cases h1
        have e : v = .bool b := h
        subst e
        exact PRel.val _ rfl
      · exact gen (one _ he)
    | _ => exact gen (one _ he)
  | slc sz xs => cases one _ he; exact h
  | ref cs => cases one _ he; exact h
  | opt y => cases one _ he; exact h
  | kb b => cases one _ he; exact h
  | _ => cases he
theorem renL_rel (hF : Fits ob ob' ρ) (ho : onceR ρ = true) {vs : List Value} {cs cs' : List AV} {l : Eqs} (h : ARelC w g ob vs cs) (he : renL ob ob' ρ cs cs' = some l) (hl : AllEq l) : ARelC w (g.ren ρ) ob' vs cs' := by
  obtain ⟨hn, hg⟩ := renL_get _ _ _ he hl
  refine ⟨by rw [h.1, hn], fun j y u hy hu => ?_⟩
  have hj : j < cs.length := by rw [hn]; exact lt_of_some hu
  obtain ⟨l', h1, h2⟩ := hg j _ _ (List.getElem?_eq_getElem hj) hu
  obtain ⟨h3, h4⟩ := h.2 j y _ hy (List.getElem?_eq_getElem hj)
  exact ⟨ren0_rel hF ho h3 h1 h2, h4⟩
theorem ren0_flat {x x' : AV} {l : Eqs} (he : ren0 ob ob' ρ x x' = some l) (hl : AllEq l) : x' = .dead ∨ ((∀ cs, x ≠ .agg cs) ∧ ∀ cs, x ≠ .tup cs) := by
  have one : ∀ y, some [(x, y)] = some l → x = y := fun y hy => by cases hy; exact hl.1
  have fin : ∀ y, x = y → ((∀ cs, y ≠ .agg cs) ∧ ∀ cs, y ≠ .tup cs) → x' = .dead ∨ ((∀ cs, x ≠ .agg cs) ∧ ∀ cs, x ≠ .tup cs) := fun y h hy => .inr (h ▸ hy)
  cases x' with
  | dead => exact .inl rfl
  | box j off =>
    simp only [ren0] at he
    split at he
    · exact fin _ (one _ he) ⟨(fun cs h => by cases h), (fun cs h => by cases h)⟩
    · cases he
  | iter j =>
    simp only [ren0] at he
    split at he
    · exact fin _ (one _ he) ⟨(fun cs h => by cases h), (fun cs h => by cases h)⟩
    · cases he
  | row j e' =>
    simp only [ren0] at he
    split at he
    · split at he
      · split at he
        · split at he
          · exact fin _ (one _ he) ⟨(fun cs h => by cases h), (fun cs h => by cases h)⟩
          · cases he
        · cases he
          exact fin _ hl.1 ⟨(fun cs h => by cases h), (fun cs h => by cases h)⟩
        · cases he
      · cases he
    · cases he
  | val u =>
    cases u with
    | bool b =>
      simp only [ren0] at he
      split at he
      · exact .inr ⟨(fun cs h => by cases h), (fun cs h => by cases h)⟩
      · exact fin _ (one _ he) ⟨(fun cs h => by cases h), (fun cs h => by cases h)⟩
    | _ => exact fin _ (one _ he) ⟨(fun cs h => by cases h), (fun cs h => by cases h)⟩
  | slc sz xs => exact fin _ (one _ he) ⟨(fun cs h => by cases h), (fun cs h => by cases h)⟩
  | ref cs => exact fin _ (one _ he) ⟨(fun cs h => by cases h), (fun cs h => by cases h)⟩
  | opt y => exact fin _ (one _ he) ⟨(fun cs h => by cases h), (fun cs h => by cases h)⟩
  | kb b => exact fin _ (one _ he) ⟨(fun cs h => by cases h), (fun cs h => by cases h)⟩
  | _ => cases he
theorem ren1_rel (hF : Fits ob ob' ρ) (ho : onceR ρ = true) {v : Value} {x x' : AV} {l : Eqs} (h : ARel w g ob v x) (he : ren1 ob ob' ρ x x' = some l) (hl : AllEq l) : ARel w (g.ren ρ) ob' v x' := by
  have gen : ren0 ob ob' ρ x x' = some l → ARel w (g.ren ρ) ob' v x' := fun he => by
    have hx : ARel0 w g ob v x ∨ x' = .dead := by
      rcases ren0_flat he hl with h1 | ⟨h1, h2⟩
      · exact .inr h1
      · left
        cases x <;> first | exact h | exact absurd rfl (h1 _) | exact absurd rfl (h2 _)
    rcases hx with hx | rfl
    · exact (ren0_rel hF ho hx he hl).to
    · trivial
  cases x' with
  | agg cs' =>
    simp only [ren1] at he
    split at he
    · obtain ⟨vs, rfl, hc⟩ := h
      exact ⟨vs, rfl, renL_rel hF ho hc he hl⟩
    · cases he
  | _ => exact gen he
theorem Mem.ren (M : Mem w g ob) (hF : Fits ob ob' ρ) (ho : onceR ρ = true) : Mem w (g.ren ρ) ob' := by
  have get : ∀ (j : Nat) o, ob'[j]? = some o → ∃ i, ρ[j]? = some i ∧ ∃ l, renOb ob ob' ρ i o = some l ∧ AllEq l := fun j o h => by
    have hj : j < ρ.length := hF.1 ▸ lt_of_some h
    exact ⟨_, List.getElem?_eq_getElem hj, hF.2 j _ o (List.getElem?_eq_getElem hj) h⟩
  refine ⟨fun j cs' h => ?_, fun j cs' h k u hk => ?_, fun j s pos h => ?_, fun b j h => ?_, fun b o hA => ⟨(M.imm b o hA).1, fun j h hs => ?_⟩, fun j et sz fz e xs h => ?_, fun b hs => ?_, fun b b' j h1 h2 hs hs' => ?_⟩
  · obtain ⟨i, hi, l, h1, h2⟩ := get j _ h
    cases i with
    | none => cases h1
    | some i =>
      simp only [renOb] at h1
      split at h1 <;> first | (rename_i heq _; cases heq; done) | skip
      · rename_i cs2 cs heq hob
        cases heq
        obtain ⟨hG, cur, T, h3, h4⟩ := M.box i cs hob
        exact ⟨by rw [ren_loc hi]; exact ren_G ho hi hG, cur, T, by rw [ren_loc hi]; exact h3, renL_rel hF ho h4 h1 h2⟩
      · cases h1
  · obtain ⟨i, hi, l, h1, h2⟩ := get j _ h
    cases i with
    | none => cases h1
    | some i =>
      simp only [renOb] at h1
      split at h1 <;> first | (rename_i heq _; cases heq; done) | skip
      · rename_i cs2 cs heq hob
        cases heq
        cases h1
        obtain ⟨h3, _⟩ := h2
        cases h3
        have := M.fbox i _ hob k u hk
        rw [ren_loc hi]
        exact this
      · cases h1
  · obtain ⟨i, hi, l, h1, h2⟩ := get j _ h
    cases i with
    | none => cases h1
    | some i =>
      simp only [renOb] at h1
      split at h1 <;> first | (rename_i heq _; cases heq; done) | skip
      · rename_i heq hob
        cases heq
        cases h1
        obtain ⟨h3, h4, _⟩ := h2
        cases h3
        cases h4
        obtain ⟨hG, h5⟩ := M.iter i _ _ hob
        exact ⟨by rw [ren_loc hi]; exact ren_G ho hi hG, by rw [ren_loc hi]; exact h5⟩
      · cases h1
  · obtain ⟨i, hi, hG⟩ := ren_Gof h
    exact ⟨(M.own b i hG).1, hF.1 ▸ lt_of_some hi⟩
  · obtain ⟨i, hi, hG⟩ := ren_Gof h
    obtain ⟨et, sz, e, xs, h1, h2⟩ := (M.imm b o hA).2 i hG (by rw [← ren_sub ho hi hG]; exact hs)
    obtain ⟨fz', e', h3, h4⟩ := hF.row hi h1
    obtain rfl := h4 rfl
    exact ⟨et, sz, e', xs, h3, h2⟩
  · obtain ⟨i, hi, l, h1, h2⟩ := get j _ h
    cases i with
    | none =>
      simp only [renOb] at h1
      split at h1
      · rename_i hk
        cases h1
        obtain ⟨h3, _⟩ := h2
        cases h3
        exact ⟨hk.1, fun x h => by cases h⟩
      · cases h1
    | some i =>
      simp only [renOb] at h1
      split at h1 <;> first | (rename_i heq _; cases heq; done) | skip
      · rename_i heq hob
        cases heq
        split at h1
        · rename_i hk
          obtain ⟨rfl, rfl, _⟩ := hk
          cases h1
          obtain ⟨h3, _⟩ := h2
          cases h3
          exact M.roww i _ _ _ _ _ hob
        · cases h1
      · cases h1
  · simp only [Gh.ren, Bool.and_eq_true] at hs
    obtain ⟨j, hj⟩ := Option.isSome_iff_exists.1 hs.2
    obtain ⟨i, et, sz, fz, e, xs, h1, h2⟩ := M.nsub b hs.1
    obtain ⟨i', hi, hG⟩ := ren_Gof (g := g) (ρ := ρ) hj
    rw [h1] at hG
    obtain rfl : i = i' := by simpa using hG
    obtain ⟨fz', e', h3, _⟩ := hF.row hi h2
    exact ⟨j, _, _, _, _, _, hj, h3⟩
  · obtain ⟨i, hi, hG⟩ := ren_Gof h1
    obtain ⟨i', hi', hG'⟩ := ren_Gof h2
    obtain rfl : i = i' := by
      have := hi.symm.trans hi'
      simpa using this
    exact M.uniq b b' i hG hG' (by rw [← ren_sub ho hi hG]; exact hs) (by rw [← ren_sub ho hi' hG']; exact hs')
end
end Go.Proofs.Ytblafdmmebiagaa
namespace Go.Proofs.Ytblafdmmebiagaa
open Go.RowKit Go.Lib
theorem posOf_get {i : Nat} : ∀ {ρ : List Nat} {j : Nat}, posOf i ρ = some j → ρ[j]? = some i
  | [], j, h => by cases h
  | k :: r, j, h => by
    simp only [posOf] at h
    split at h
    · rename_i e
      cases h; subst e; rfl
    · obtain ⟨j', h1, rfl⟩ := Option.map_eq_some_iff.1 h
      simpa using posOf_get h1
theorem posOf_some {i : Nat} : ∀ {ρ : List Nat} {j : Nat}, ρ[j]? = some i → ∃ j', posOf i ρ = some j'
  | [], j, h => by simp at h
  | k :: r, j, h => by
    simp only [posOf]
    split
    · exact ⟨0, rfl⟩
    · rename_i hne
      cases j with
      | zero => exact absurd (by simpa using h.symm) hne
      | succ j =>
        obtain ⟨j', h1⟩ := posOf_some (ρ := r) (j := j) (by simpa using h)
        exact ⟨j' + 1, by rw [h1]; rfl⟩
section
variable {ob : List Ob} {ρ : List Nat}
theorem map_get {j i : Nat} (h : ρ[j]? = some i) : (ρ.map some)[j]? = some (some i) := by rw [List.getElem?_map, h]; rfl
theorem get_map {j i : Nat} (h : (ρ.map some)[j]? = some (some i)) : ρ[j]? = some i := by
  rw [List.getElem?_map, Option.map_eq_some_iff] at h
  obtain ⟨k, h1, h2⟩ := h
  cases h2; exact h1
theorem posOf_once (h : onceR (ρ.map some) = true) {i j : Nat} (hj : ρ[j]? = some i) : posOf i ρ = some j := by
  obtain ⟨j', hj'⟩ := posOf_some hj
  have h1 := onceR_get h (map_get hj)
  have h2 := onceR_get h (map_get (posOf_get hj'))
  rw [h1] at h2
  cases h2; exact hj'
abbrev inObs (ob : List Ob) (ρ : List Nat) : List Ob := ρ.map fun i => inO ob ρ (ob.getD i .gone)
theorem inObs_get {i j : Nat} (hj : ρ[j]? = some i) : (inObs ob ρ)[j]? = some (inO ob ρ (ob.getD i .gone)) := by
  simp only [inObs, List.getElem?_map, hj, Option.map_some]
theorem getD_of {i : Nat} {o : Ob} (h : ob[i]? = some o) : ob.getD i .gone = o := by rw [List.getD_eq_getElem?_getD, h]; rfl
theorem ren0_in (x : AV) : ∃ l, ren0 ob (inObs ob ρ) (ρ.map some) x (inC ob ρ x) = some l ∧ AllEq l := by
  have dead : ∃ l, ren0 ob (inObs ob ρ) (ρ.map some) x .dead = some l ∧ AllEq l := ⟨[], rfl, trivial⟩
  cases x with
  | val v => cases v <;> exact ⟨_, rfl, rfl, trivial⟩
  | slc sz xs => exact ⟨_, rfl, rfl, trivial⟩
  | ref cs => exact ⟨_, rfl, rfl, trivial⟩
  | opt y => exact ⟨_, rfl, rfl, trivial⟩
  | kb b => exact ⟨_, rfl, rfl, trivial⟩
  | box i o =>
    simp only [inC]
    split
    · rename_i j hj
      exact ⟨[(.box i o, .box i o)], by simp only [ren0, map_get (posOf_get hj)], rfl, trivial⟩
    · exact dead
  | row i e =>
    simp only [inC]
    split
    · rename_i j hj
      split
      · rename_i et sz fz e2 xs hob
        split
        · rename_i he
          subst he
          refine ⟨[(.row i e2, .row i e2)], ?_, rfl, trivial⟩
          have h1 := inObs_get (ob := ob) (posOf_get hj)
          rw [getD_of hob] at h1
          simp only [ren0, h1, inO, if_true, map_get (posOf_get hj), hob]
        · exact dead
      · exact dead
    · exact dead
  | _ => exact dead
theorem renL_in : ∀ (xs : List AV), ∃ l, renL ob (inObs ob ρ) (ρ.map some) xs (xs.map (inC ob ρ)) = some l ∧ AllEq l
  | [] => ⟨[], rfl, trivial⟩
  | x :: r => by
    obtain ⟨l1, h1, h2⟩ := ren0_in (ob := ob) (ρ := ρ) x
    obtain ⟨l2, h3, h4⟩ := renL_in r
    exact ⟨l1 ++ l2, by simp only [List.map_cons, renL, h1, h3, both], allEq_append.2 ⟨h2, h4⟩⟩
theorem ren1_in (x : AV) : ∃ l, ren1 ob (inObs ob ρ) (ρ.map some) x (inA ob ρ x) = some l ∧ AllEq l := by
  cases x with
  | agg cs => exact renL_in cs
  | val v => exact ren0_in (ob := ob) (ρ := ρ) (.val v)
  | slc sz xs => exact ren0_in (ob := ob) (ρ := ρ) (.slc sz xs)
  | ref cs => exact ren0_in (ob := ob) (ρ := ρ) (.ref cs)
  | opt y => exact ren0_in (ob := ob) (ρ := ρ) (.opt y)
  | kb b => exact ren0_in (ob := ob) (ρ := ρ) (.kb b)
  | box i o =>
    obtain ⟨l, h1, h2⟩ := ren0_in (ob := ob) (ρ := ρ) (.box i o)
    refine ⟨l, ?_, h2⟩
    show ren1 _ _ _ _ (inC ob ρ (.box i o)) = _
    revert h1
    simp only [inC]
    split <;> exact id
  | row i e =>
    obtain ⟨l, h1, h2⟩ := ren0_in (ob := ob) (ρ := ρ) (.row i e)
    refine ⟨l, ?_, h2⟩
    show ren1 _ _ _ _ (inC ob ρ (.row i e)) = _
    revert h1
    simp only [inC]
    split <;> (try split) <;> (try split) <;> exact id
  | _ => exact ⟨[], rfl, trivial⟩
theorem fits_in (ht : there ob ρ = true) : Fits ob (inObs ob ρ) (ρ.map some) := by
  refine ⟨by simp, fun j i o hi ho => ?_⟩
  rw [List.getElem?_map, Option.map_eq_some_iff] at hi
  obtain ⟨k, hk, rfl⟩ := hi
  rw [inObs_get hk] at ho
  cases ho
  have h := List.all_eq_true.1 ht k (List.mem_of_getElem? hk)
  cases hob : ob[k]? with
  | none => rw [hob] at h; cases h
  | some q =>
    rw [getD_of hob]
    cases q with
    | gone => rw [hob] at h; cases h
    | box cs => simp only [inO, renOb, hob]; exact renL_in cs
    | fbox cs => exact ⟨[(.slc 0 cs, .slc 0 cs)], by simp only [inO, renOb, hob], rfl, trivial⟩
    | row et sz fz e xs => exact ⟨[(.slc 0 xs, .slc 0 xs)], by simp only [inO, renOb, hob]; simp, rfl, trivial⟩
    | iter s p => exact ⟨[(.val (.string s), .val (.string s)), (.box 0 p, .box 0 p)], by simp only [inO, renOb, hob], rfl, rfl, trivial⟩
theorem inA_rel {w : World} {g : Gh} (ho : onceR (ρ.map some) = true) (ht : there ob ρ = true) {v : Value} {x : AV} (h : ARel w g ob v x) : ARel w (g.ren (ρ.map some)) (inObs ob ρ) v (inA ob ρ x) := by
  obtain ⟨l, h1, h2⟩ := ren1_in (ob := ob) (ρ := ρ) x
  exact ren1_rel (fits_in ht) ho h h1 h2
theorem mem_in {w : World} {g : Gh} (M : Mem w g ob) (ho : onceR (ρ.map some) = true) (ht : there ob ρ = true) : Mem w (g.ren (ρ.map some)) (inObs ob ρ) := M.ren (fits_in ht) ho
end
def Gh.out (g g' : Gh) (ρ : List Nat) (n : Nat) : Gh where
  A := g'.A
  G b := match g'.G b with
    | some j => some (outI ρ n j)
    | none => match g.G b with
      | some id => match posOf id ρ with
        | some _ => none
        | none => some id
      | none => none
  loc id := match posOf id ρ with
    | some j => g'.loc j
    | none => if id < n then g.loc id else g'.loc (ρ.length + (id - n))
  sub b := match g'.G b with
    | some _ => g'.sub b
    | none => match g.G b with
      | some id => match posOf id ρ with
        | some _ => false
        | none => g.sub b
      | none => false
section
variable {w w' : World} {g g' : Gh} {ob ob' : List Ob} {ρ : List Nat}
structure CallAt (w : World) (g : Gh) (ob : List Ob) (ρ : List Nat) (w' : World) (g' : Gh) (ob' : List Ob) : Prop where
  once : onceR (ρ.map some) = true
  there : there ob ρ = true
  len : ρ.length ≤ ob'.length
  m : Mem w g ob
  m' : Mem w' g' ob'
  st : Step w (g.ren (ρ.map some)) (inObs ob ρ) w' g' ob'
theorem CallAt.lt (C : CallAt w g ob ρ w' g' ob') {i j : Nat} (hj : ρ[j]? = some i) : i < ob.length := by
  have h := List.all_eq_true.1 C.there i (List.mem_of_getElem? hj)
  cases hob : ob[i]? with
  | none => rw [hob] at h; cases h
  | some _ => exact lt_of_some hob
theorem CallAt.outI_lt (C : CallAt w g ob ρ w' g' ob') {j : Nat} (hj : j < ob'.length) : outI ρ ob.length j < ob.length + (ob'.length - ρ.length) := by
  unfold outI
  split
  · rename_i h
    have h1 : ρ[j]? = some (ρ.getD j 0) := by rw [List.getD_eq_getElem?_getD, List.getElem?_eq_getElem h]; rfl
    have := C.lt h1
    omega
  · have := C.len; omega
theorem CallAt.outI_at (C : CallAt w g ob ρ w' g' ob') (j : Nat) : (j < ρ.length ∧ ρ[j]? = some (outI ρ ob.length j) ∧ outI ρ ob.length j < ob.length) ∨ (ρ.length ≤ j ∧ outI ρ ob.length j = ob.length + (j - ρ.length)) := by
  unfold outI
  split
  · rename_i h
    have h1 : ρ[j]? = some (ρ.getD j 0) := by rw [List.getD_eq_getElem?_getD, List.getElem?_eq_getElem h]; rfl
    exact .inl ⟨h, h1, C.lt h1⟩
  · exact .inr ⟨by omega, rfl⟩
theorem CallAt.outI_inj (C : CallAt w g ob ρ w' g' ob') {j j' : Nat} (h : outI ρ ob.length j = outI ρ ob.length j') : j = j' := by
  rcases C.outI_at j with ⟨h1, h2, h3⟩ | ⟨h1, h2⟩ <;> rcases C.outI_at j' with ⟨h4, h5, h6⟩ | ⟨h4, h5⟩
  · rw [h] at h2
    have := (posOf_once C.once h2).symm.trans (posOf_once C.once h5)
    exact Option.some.inj this
  · omega
  · omega
  · omega
theorem CallAt.outI_not (C : CallAt w g ob ρ w' g' ob') {j : Nat} (hp : posOf (outI ρ ob.length j) ρ = none) (hl : outI ρ ob.length j < ob.length) : False := by
  rcases C.outI_at j with ⟨h1, h2, h3⟩ | ⟨h1, h2⟩
  · rw [posOf_once C.once h2] at hp; cases hp
  · omega
theorem CallAt.back_len (C : CallAt w g ob ρ w' g' ob') : (back ob ρ ob').length = ob.length + (ob'.length - ρ.length) := by simp [back]
theorem CallAt.back_out (C : CallAt w g ob ρ w' g' ob') {j : Nat} {o : Ob} (hj : ob'[j]? = some o) : (back ob ρ ob')[outI ρ ob.length j]? = some (outO ob ρ j o) := by
  have hl := lt_of_some hj
  have h1 := C.outI_lt hl
  simp only [back, List.getElem?_map, List.getElem?_range h1, Option.map_some]
  unfold outI
  by_cases h : j < ρ.length
  · rw [if_pos h]
    have h2 : ρ[j]? = some (ρ.getD j 0) := by rw [List.getD_eq_getElem?_getD, List.getElem?_eq_getElem h]; rfl
    simp only [posOf_once C.once h2, getD_of hj]
  · rw [if_neg h]
    have h2 : posOf (ob.length + (j - ρ.length)) ρ = none := by
      cases hp : posOf (ob.length + (j - ρ.length)) ρ with
      | none => rfl
      | some k => have := C.lt (posOf_get hp); omega
    have h3 : ¬ (ob.length + (j - ρ.length) < ob.length) := by omega
    have h4 : ρ.length + (ob.length + (j - ρ.length) - ob.length) = j := by omega
    simp only [h2, h3, if_false, h4, getD_of hj]
theorem CallAt.back_own (C : CallAt w g ob ρ w' g' ob') {id : Nat} (hid : id < ob.length) (hp : posOf id ρ = none) : (back ob ρ ob')[id]? = ob[id]? := by
  have h1 : id < ob.length + (ob'.length - ρ.length) := by omega
  simp only [back, List.getElem?_map, List.getElem?_range h1, Option.map_some, hp, hid, if_true]
  rw [List.getElem?_eq_getElem hid, List.getD_eq_getElem?_getD, List.getElem?_eq_getElem hid]; rfl
theorem CallAt.back_cases (C : CallAt w g ob ρ w' g' ob') {id : Nat} {o : Ob} (h : (back ob ρ ob')[id]? = some o) :
    (∃ j o', ob'[j]? = some o' ∧ id = outI ρ ob.length j ∧ o = outO ob ρ j o') ∨ (id < ob.length ∧ posOf id ρ = none ∧ ob[id]? = some o) := by
  have hlt := lt_of_some h
  rw [C.back_len] at hlt
  cases hp : posOf id ρ with
  | some j =>
    left
    have hj := posOf_get hp
    have hl : j < ob'.length := Nat.lt_of_lt_of_le (lt_of_some hj) C.len
    have e : outI ρ ob.length j = id := by
      unfold outI
      rw [if_pos (lt_of_some hj), List.getD_eq_getElem?_getD, hj]; rfl
    refine ⟨j, _, List.getElem?_eq_getElem hl, e.symm, ?_⟩
    have h2 := C.back_out (List.getElem?_eq_getElem hl)
    rw [e, h] at h2
    exact Option.some.inj h2
  | none =>
    by_cases hid : id < ob.length
    · rw [C.back_own hid hp] at h
      exact .inr ⟨hid, rfl, h⟩
    · left
      have hl : ρ.length + (id - ob.length) < ob'.length := by have := C.len; omega
      have e : outI ρ ob.length (ρ.length + (id - ob.length)) = id := by
        unfold outI
        rw [if_neg (by omega)]; omega
      refine ⟨_, _, List.getElem?_eq_getElem hl, e.symm, ?_⟩
      have h2 := C.back_out (List.getElem?_eq_getElem hl)
      rw [e, h] at h2
      exact Option.some.inj h2
theorem CallAt.loc_out (C : CallAt w g ob ρ w' g' ob') {j : Nat} : (g.out g' ρ ob.length).loc (outI ρ ob.length j) = g'.loc j := by
  unfold outI
  by_cases h : j < ρ.length
  · rw [if_pos h]
    have h2 : ρ[j]? = some (ρ.getD j 0) := by rw [List.getD_eq_getElem?_getD, List.getElem?_eq_getElem h]; rfl
    simp only [Gh.out, posOf_once C.once h2]
  · rw [if_neg h]
    have h2 : posOf (ob.length + (j - ρ.length)) ρ = none := by
      cases hp : posOf (ob.length + (j - ρ.length)) ρ with
      | none => rfl
      | some k => have := C.lt (posOf_get hp); omega
    have h3 : ¬ (ob.length + (j - ρ.length) < ob.length) := by omega
    have h4 : ρ.length + (ob.length + (j - ρ.length) - ob.length) = j := by omega
    simp only [Gh.out, h2, h3, if_false, h4]
theorem out_sub {j b : Nat} (h : g'.G b = some j) : (g.out g' ρ ob.length).sub b = g'.sub b := by simp only [Gh.out, h]
theorem out_sub' {id b : Nat} (h : g'.G b = none) (h1 : g.G b = some id) (hp : posOf id ρ = none) : (g.out g' ρ ob.length).sub b = g.sub b := by simp only [Gh.out, h, h1, hp]
theorem out_G {j b : Nat} (h : g'.G b = some j) : (g.out g' ρ ob.length).G b = some (outI ρ ob.length j) := by simp only [Gh.out, h]
theorem CallAt.own_G (C : CallAt w g ob ρ w' g' ob') {b id : Nat} (h : g.G b = some id) (hp : posOf id ρ = none) :
    (g.ren (ρ.map some)).G b = none ∧ g'.G b = none ∧ (g.out g' ρ ob.length).G b = some id ∧ w'.heap[b]? = w.heap[b]? := by
  have h1 : (g.ren (ρ.map some)).G b = none := by
    cases hr : (g.ren (ρ.map some)).G b with
    | none => rfl
    | some j =>
      obtain ⟨i, hi, hG⟩ := ren_Gof hr
      rw [h] at hG; cases hG
      obtain ⟨j', hj'⟩ := posOf_some (get_map hi)
      rw [hp] at hj'; cases hj'
  have hb := (C.m.own b id h).1
  have h2 : g'.G b = none := by
    cases hr : g'.G b with
    | none => rfl
    | some j =>
      rcases C.st.own b j hr with ⟨k, hk⟩ | hk
      · rw [h1] at hk; cases hk
      · omega
  exact ⟨h1, h2, by simp only [Gh.out, h2, h, hp], C.st.keep b hb h1⟩
theorem CallAt.G_cases (C : CallAt w g ob ρ w' g' ob') {b id : Nat} (h : (g.out g' ρ ob.length).G b = some id) :
    (∃ j, g'.G b = some j ∧ id = outI ρ ob.length j) ∨ (g'.G b = none ∧ g.G b = some id ∧ posOf id ρ = none) := by
  simp only [Gh.out] at h
  cases h1 : g'.G b with
  | some j => rw [h1] at h; exact .inl ⟨j, rfl, (Option.some.inj h).symm⟩
  | none =>
    rw [h1] at h
    cases h2 : g.G b with
    | none => rw [h2] at h; cases h
    | some k =>
      rw [h2] at h
      cases h3 : posOf k ρ with
      | some _ => simp only [h3] at h; cases h
      | none => simp only [h3] at h; cases h; exact .inr ⟨rfl, rfl, h3⟩
theorem outO_box {j : Nat} {o : Ob} (h : isBox (some o)) : isBox (some (outO ob ρ j o)) := by cases o <;> first | exact h.elim | trivial
theorem outO_it {j : Nat} {o : Ob} (h : isIt (some o)) : isIt (some (outO ob ρ j o)) := by cases o <;> first | exact h.elim | trivial
theorem CallAt.isb_out (C : CallAt w g ob ρ w' g' ob') {j : Nat} (h : isBox ob'[j]?) : isBox (back ob ρ ob')[outI ρ ob.length j]? := by
  have hl := isBox_lt h
  rw [List.getElem?_eq_getElem hl] at h
  rw [C.back_out (List.getElem?_eq_getElem hl)]
  exact outO_box h
theorem CallAt.isi_out (C : CallAt w g ob ρ w' g' ob') {j : Nat} (h : isIt ob'[j]?) : isIt (back ob ρ ob')[outI ρ ob.length j]? := by
  have hl := isIt_lt h
  rw [List.getElem?_eq_getElem hl] at h
  rw [C.back_out (List.getElem?_eq_getElem hl)]
  exact outO_it h
theorem outI_of {i j : Nat} (hj : ρ[j]? = some i) (n : Nat) : outI ρ n j = i := by
  unfold outI
  rw [if_pos (lt_of_some hj), List.getD_eq_getElem?_getD, hj]; rfl
theorem CallAt.ext (C : CallAt w g ob ρ w' g' ob') : Ext w g ob w' (g.out g' ρ ob.length) (back ob ρ ob') := by
  refine ⟨C.st.ext.A, fun id hid => ?_, fun id hb => ?_, fun id hb => ?_, fun id et sz fz e xs hr => ?_, fun b id hG hs => ?_⟩
  rotate_right
  · obtain ⟨et, sz, fz, fz', e, xs, xs', h1, h2⟩ := hs
    cases hp : posOf id ρ with
    | none =>
      obtain ⟨h3, h4, h5, h6⟩ := C.own_G hG hp
      refine ⟨out_sub' h4 hG hp, fun _ o hA => ?_⟩
      rcases C.st.imm b o hA with h7 | ⟨k, h7⟩ | h7
      · exact h7
      · rw [h3] at h7; cases h7
      · have := (C.m.own b id hG).1; omega
    | some j =>
      have hj := posOf_get hp
      have h3 : (inObs ob ρ)[j]? = some (.row et sz fz 0 xs) := by rw [inObs_get hj, getD_of h1]; rfl
      obtain ⟨fz2, e2, xs2, h4, _, h5⟩ := C.st.ext.row j _ _ _ _ _ h3
      have h6 := C.back_out h4
      rw [outI_of hj, h2] at h6
      have h7 : outE ob ρ j = e := by simp only [outE, hj, epOf, h1]
      simp only [outO, h7] at h6
      have h8 : e2 = 0 := by
        have h9 : e = e + e2 := by injection h6 with h6; injection h6
        omega
      subst h8
      have hG2 := ren_G (g := g) C.once (map_get hj) hG
      obtain ⟨h9, h10⟩ := C.st.ext.sub b j hG2 ⟨_, _, _, _, _, _, _, h3, h4⟩
      have hs2 := ren_sub (g := g) C.once (map_get hj) hG
      refine ⟨(out_sub ((h5 rfl).2 b hG2).1).trans (h9.trans hs2), fun hsb o hA => h10 (hs2.trans hsb) o hA⟩
  · cases hp : posOf id ρ with
    | none => simp only [Gh.out, hp, hid, if_true]
    | some j =>
      have hj := posOf_get hp
      simp only [Gh.out, hp]
      rw [C.st.ext.loc j (by simpa using lt_of_some hj), ren_loc (map_get hj)]
  · cases hp : posOf id ρ with
    | none => rw [C.back_own (isBox_lt hb) hp]; exact hb
    | some j =>
      have hj := posOf_get hp
      have := C.isb_out (C.st.ext.isb j ((fits_in C.there).isB (map_get hj) hb))
      rw [outI_of hj] at this; exact this
  · cases hp : posOf id ρ with
    | none => rw [C.back_own (isIt_lt hb) hp]; exact hb
    | some j =>
      have hj := posOf_get hp
      have := C.isi_out (C.st.ext.isi j ((fits_in C.there).isI (map_get hj) hb))
      rw [outI_of hj] at this; exact this
  · cases hp : posOf id ρ with
    | none =>
      refine ⟨fz, e, xs, by rw [C.back_own (lt_of_some hr) hp]; exact hr, Nat.le_refl _, fun _ => ⟨rfl, fun b hb => ?_⟩⟩
      obtain ⟨_, _, h3, h4⟩ := C.own_G hb hp
      exact ⟨h3, h4⟩
    | some j =>
      have hj := posOf_get hp
      have h1 : (inObs ob ρ)[j]? = some (.row et sz fz 0 xs) := by rw [inObs_get hj, getD_of hr]; rfl
      obtain ⟨fz', e', xs', h2, h3, h4⟩ := C.st.ext.row j _ _ _ _ _ h1
      have h5 := C.back_out h2
      rw [outI_of hj] at h5
      have h6 : outE ob ρ j = e := by simp only [outE, hj, epOf, hr]
      refine ⟨fz', e + e', xs', by rw [h5, ← h6]; rfl, by omega, fun he => ?_⟩
      obtain ⟨h7, h8⟩ := h4 (by omega)
      refine ⟨h7, fun b hb => ?_⟩
      obtain ⟨h9, h10⟩ := h8 b (ren_G C.once (map_get hj) hb)
      refine ⟨?_, h10⟩
      rw [out_G h9, outI_of hj]
theorem CallAt.row_out (C : CallAt w g ob ρ w' g' ob') {j et sz : Nat} {v : Value} {xs : List AV} (h : RowV w' g' j et sz v xs) : RowV w' (g.out g' ρ ob.length) (outI ρ ob.length j) et sz v xs := by
  obtain ⟨ys, h1, h2, h3, h4, h5⟩ := h
  exact ⟨ys, h1, fun b hb => out_G (h2 b hb), h3, h4, h5.ext h2 fun b hb => ⟨out_G hb, out_sub hb, fun _ => ⟨rfl, fun _ h => h⟩⟩⟩
theorem CallAt.rel0 (C : CallAt w g ob ρ w' g' ob') {v : Value} {x : AV} (h : ARel0 w' g' ob' v x) : ARel0 w' (g.out g' ρ ob.length) (back ob ρ ob') v (outC ob ρ x) := by
  cases x with
  | box j o => exact ⟨by rw [C.loc_out]; exact h.1, C.isb_out h.2⟩
  | iter j => exact ⟨by rw [C.loc_out]; exact h.1, C.isi_out h.2⟩
  | row j e =>
    obtain ⟨h0, et, sz, fz, e', xs, h1, h2, h3⟩ := h
    refine ⟨h0, et, sz, fz, outE ob ρ j + e', xs, C.back_out h1, by omega, fun he => C.row_out (h3 (by omega))⟩
  | rowk j e k =>
    obtain ⟨h0, et, sz, fz, e', xs, h1, h2, h3⟩ := h
    refine ⟨h0, et, sz, fz, outE ob ρ j + e', xs, C.back_out h1, by omega, fun he => ?_⟩
    obtain ⟨h4, h5, h6⟩ := h3 (by omega)
    exact ⟨h4, h5, C.row_out h6⟩
  | rptr j e i o =>
    obtain ⟨h0, et, sz, fz, e', xs, h1, h2, h3⟩ := h
    refine ⟨h0, et, sz, fz, outE ob ρ j + e', xs, C.back_out h1, by omega, fun he => ?_⟩
    obtain ⟨b, c, h4, h5, h6, h7⟩ := h3 (by omega)
    exact ⟨b, c, h4, h5, h6, C.row_out h7⟩
  | _ => exact h
theorem CallAt.relC (C : CallAt w g ob ρ w' g' ob') {vs : List Value} {cs : List AV} (h : ARelC w' g' ob' vs cs) : ARelC w' (g.out g' ρ ob.length) (back ob ρ ob') vs (cs.map (outC ob ρ)) := by
  refine ⟨by simp [h.1], fun j y u hy hu => ?_⟩
  rw [List.getElem?_map, Option.map_eq_some_iff] at hu
  obtain ⟨u', h1, rfl⟩ := hu
  exact ⟨C.rel0 (h.2 j y u' hy h1).1, (h.2 j y u' hy h1).2⟩
theorem CallAt.rel1 (C : CallAt w g ob ρ w' g' ob') {v : Value} {x : AV} (h : ARel1 w' g' ob' v x) : ARel1 w' (g.out g' ρ ob.length) (back ob ρ ob') v (outA1 ob ρ x) := by
  cases x with
  | agg cs => obtain ⟨vs, rfl, h⟩ := h; exact ⟨vs, rfl, C.relC h⟩
  | tup _ => exact (show False from h).elim
  | val a => exact C.rel0 (x := .val a) h
  | slc a b => exact C.rel0 (x := .slc a b) h
  | ref a => exact C.rel0 (x := .ref a) h
  | opt a => exact C.rel0 (x := .opt a) h
  | box a b => exact C.rel0 (x := .box a b) h
  | row a b => exact C.rel0 (x := .row a b) h
  | rowk a b c => exact C.rel0 (x := .rowk a b c) h
  | rptr a b c d => exact C.rel0 (x := .rptr a b c d) h
  | kb a => exact C.rel0 (x := .kb a) h
  | iter a => exact C.rel0 (x := .iter a) h
  | dead => trivial
theorem CallAt.rel (C : CallAt w g ob ρ w' g' ob') {v : Value} {x : AV} (h : ARel w' g' ob' v x) : ARel w' (g.out g' ρ ob.length) (back ob ρ ob') v (outA ob ρ x) := by
  cases x with
  | tup xs =>
    obtain ⟨vs, rfl, h1, h2⟩ := h
    refine ⟨vs, rfl, by simp [h1], fun j y u hy hu => ?_⟩
    rw [List.getElem?_map, Option.map_eq_some_iff] at hu
    obtain ⟨u', h3, rfl⟩ := hu
    exact C.rel1 (h2 j y u' hy h3)
  | agg cs => exact (C.rel1 (x := .agg cs) h).to
  | val a => exact (C.rel1 (x := .val a) h).to
  | slc a b => exact (C.rel1 (x := .slc a b) h).to
  | ref a => exact (C.rel1 (x := .ref a) h).to
  | opt a => exact (C.rel1 (x := .opt a) h).to
  | box a b => exact (C.rel1 (x := .box a b) h).to
  | row a b => exact (C.rel1 (x := .row a b) h).to
  | rowk a b c => exact (C.rel1 (x := .rowk a b c) h).to
  | rptr a b c d => exact (C.rel1 (x := .rptr a b c d) h).to
  | kb a => exact (C.rel1 (x := .kb a) h).to
  | iter a => exact (C.rel1 (x := .iter a) h).to
  | dead => trivial
theorem CallAt.mem (C : CallAt w g ob ρ w' g' ob') : Mem w' (g.out g' ρ ob.length) (back ob ρ ob') := by
  have E := C.ext
  refine ⟨fun id cs h => ?_, fun id cs h k u hk => ?_, fun id s pos h => ?_, fun b id h => ?_, fun b o hA => ?_, fun id et sz fz e xs h => ?_, fun b hs => ?_, fun b b' id h1 h2 hs hs' => ?_⟩
  · rcases C.back_cases h with ⟨j, o', h1, rfl, h2⟩ | ⟨hid, hp, h1⟩
    · cases o' <;> cases h2
      rename_i cs'
      obtain ⟨hG, cur, T, h3, h4⟩ := C.m'.box j cs' h1
      exact ⟨by rw [C.loc_out]; exact out_G hG, cur, T, by rw [C.loc_out]; exact h3, C.relC h4⟩
    · obtain ⟨hG, cur, T, h3, h4⟩ := C.m.box id cs h1
      obtain ⟨_, _, h5, h6⟩ := C.own_G hG hp
      have hl : (g.out g' ρ ob.length).loc id = g.loc id := E.loc id hid
      exact ⟨by rw [hl]; exact h5, cur, T, by rw [hl, h6]; exact h3, h4.ext E⟩
  · rcases C.back_cases h with ⟨j, o', h1, rfl, h2⟩ | ⟨hid, hp, h1⟩
    · cases o' <;> cases h2
      rw [C.loc_out]
      exact C.m'.fbox j _ h1 k u hk
    · obtain ⟨hA, y, h3, h4⟩ := C.m.fbox id cs h1 k u hk
      have hl : (g.out g' ρ ob.length).loc id = g.loc id := E.loc id hid
      rw [hl]
      exact ⟨(E.A _ _ hA).1, y, by rw [(E.A _ _ hA).2]; exact h3, h4.keep E.A⟩
  · rcases C.back_cases h with ⟨j, o', h1, rfl, h2⟩ | ⟨hid, hp, h1⟩
    · cases o' <;> cases h2
      obtain ⟨hG, h3⟩ := C.m'.iter j _ _ h1
      exact ⟨by rw [C.loc_out]; exact out_G hG, by rw [C.loc_out]; exact h3⟩
    · obtain ⟨hG, h3⟩ := C.m.iter id s pos h1
      obtain ⟨_, _, h5, h6⟩ := C.own_G hG hp
      have hl : (g.out g' ρ ob.length).loc id = g.loc id := E.loc id hid
      exact ⟨by rw [hl]; exact h5, by rw [hl, h6]; exact h3⟩
  · rw [C.back_len]
    rcases C.G_cases h with ⟨j, hj, rfl⟩ | ⟨_, h1, _⟩
    · exact ⟨(C.m'.own b j hj).1, C.outI_lt (C.m'.own b j hj).2⟩
    · have := C.m.own b id h1
      exact ⟨Nat.lt_of_lt_of_le this.1 C.st.size, by omega⟩
  · refine ⟨(C.m'.imm b o hA).1, fun id h hs => ?_⟩
    rcases C.G_cases h with ⟨j, hj, rfl⟩ | ⟨h0, h1, hp⟩
    · obtain ⟨et, sz, e, xs, h2, h3⟩ := (C.m'.imm b o hA).2 j hj ((out_sub hj).symm.trans hs)
      exact ⟨et, sz, outE ob ρ j + e, xs, C.back_out h2, h3⟩
    · obtain ⟨h4, _, _, _⟩ := C.own_G h1 hp
      rcases C.st.imm b o hA with h5 | ⟨k, h5⟩ | h5
      · obtain ⟨et, sz, e, xs, h2, h3⟩ := (C.m.imm b o h5).2 id h1 ((out_sub' h0 h1 hp).symm.trans hs)
        exact ⟨et, sz, e, xs, by rw [C.back_own (lt_of_some h2) hp]; exact h2, h3⟩
      · rw [h4] at h5; cases h5
      · have := (C.m.own b id h1).1; omega
  · rcases C.back_cases h with ⟨j, o', h1, rfl, h2⟩ | ⟨hid, hp, h1⟩
    · cases o' <;> cases h2
      exact C.m'.roww j _ _ _ _ _ h1
    · exact C.m.roww id _ _ _ _ _ h1
  · cases h1 : g'.G b with
    | some j =>
      obtain ⟨j', et, sz, fz, e, xs, h2, h3⟩ := C.m'.nsub b ((out_sub h1).symm.trans hs)
      exact ⟨_, _, _, _, _, _, out_G h2, C.back_out h3⟩
    | none =>
      cases h2 : g.G b with
      | none => simp only [Gh.out, h1, h2] at hs; cases hs
      | some id =>
        cases hp : posOf id ρ with
        | some k => simp only [Gh.out, h1, h2, hp] at hs; cases hs
        | none =>
          obtain ⟨id', et, sz, fz, e, xs, h3, h4⟩ := C.m.nsub b ((out_sub' h1 h2 hp).symm.trans hs)
          rw [h2] at h3
          obtain rfl : id = id' := by simpa using h3
          exact ⟨id, et, sz, fz, e, xs, (C.own_G h2 hp).2.2.1, by rw [C.back_own (lt_of_some h4) hp]; exact h4⟩
  · rcases C.G_cases h1 with ⟨j, hj, rfl⟩ | ⟨h0, h3, hp⟩
    · rcases C.G_cases h2 with ⟨j', hj', he⟩ | ⟨h0', h4, hp'⟩
      · obtain rfl := C.outI_inj he
        exact C.m'.uniq b b' j hj hj' ((out_sub hj).symm.trans hs) ((out_sub hj').symm.trans hs')
      · exact (C.outI_not hp' (C.m.own b' _ h4).2).elim
    · rcases C.G_cases h2 with ⟨j', hj', he⟩ | ⟨h0', h4, hp'⟩
      · subst he
        exact (C.outI_not hp (C.m.own b _ h3).2).elim
      · exact C.m.uniq b b' id h3 h4 ((out_sub' h0 h3 hp).symm.trans hs) ((out_sub' h0' h4 hp').symm.trans hs')
theorem CallAt.step (C : CallAt w g ob ρ w' g' ob') : Step w g ob w' (g.out g' ρ ob.length) (back ob ρ ob') := by
  have none_in : ∀ b, g.G b = none → (g.ren (ρ.map some)).G b = none := fun b h => by simp [Gh.ren, h]
  have some_in : ∀ b k, (g.ren (ρ.map some)).G b = some k → ∃ id, g.G b = some id := fun b k h => by
    obtain ⟨i, _, hG⟩ := ren_Gof h
    exact ⟨i, hG⟩
  refine ⟨C.st.os, C.st.tape, C.st.output, C.st.size, fun b hb hG => C.st.keep b hb (none_in b hG), fun b id h => ?_, fun b o hA => ?_, C.ext, ?_⟩
  · rcases C.G_cases h with ⟨j, hj, rfl⟩ | ⟨_, h1, _⟩
    · rcases C.st.own b j hj with ⟨k, hk⟩ | hk
      · exact .inl (some_in b k hk)
      · exact .inr hk
    · exact .inl ⟨id, h1⟩
  · rcases C.st.imm b o hA with h | ⟨k, h⟩ | h
    · exact .inl h
    · exact .inr (.inl (some_in b k h))
    · exact .inr (.inr h)
  · rw [C.back_len]; omega
end
end Go.Proofs.Ytblafdmmebiagaa
namespace Go.Proofs.Ytblafdmmebiagaa
open Go.RowKit Go.Lib
section
variable {P : Program} {ty : Tys} {w0 : World} {g0 : Gh} {o0 : List Ob} {N : Nat} {Q : Ex → St → Prop} {w w' : World} {g g' : Gh} {ob ob' : List Ob}
theorem ARel.to1' {v : Value} {x : AV} (h : ARel w g ob v x) (hl : ∀ xs, x ≠ .tup xs) : ARel1 w g ob v x := by cases x <;> first | exact h | exact absurd rfl (hl _)
theorem callee_run {o : Oper} {a : Act} {w : World} {f : Operand} {args : Array Operand} {tys : Array TypeId} {h : Nat} (ho : o.op = .call { callee := .value f, args := args, argTypes := tys }) (hf : a.eval f = .func (.func h) #[] #[])
    (he : ∀ vs w, (callFunc h vs).run P w = .ok (.enter h vs) w) : (execOp a.eval o).run P w = .ok (.enter h (args.map a.eval)) w := by
  simp only [execOp, ho, resolve, hf, Deferred.ofValue, Sem.run_bind, Sem.run_pure, Result.andThen_ok, invoke]
  rw [he]
  simp
theorem op_call {K : St → Tree} {o : Oper} {s : St} {a : Act} {w : World} {R : Exit → Act → World → Prop} (hs : Sim w0 g0 o0 N s a w) (hd : ∀ t, o.dst = some t → t < N)
    {f : Operand} {args : Array Operand} {tys : Array TypeId} {h : Nat} (ho : o.op = .call { callee := .value f, args := args, argTypes := tys }) (hf : ev s f = .val (.func (.func h) #[] #[]))
    {vs : List AV} {ob : List Ob} (he : eachM (frz std true 9) s.ob (args.toList.map (ev s)) = some (vs, ob)) {ρ : List Nat} (hon : onceR (ρ.map some) = true) (hth : there ob ρ = true)
    (hq : tys.toList.any (ptrT ty) = true ∨ ρ.isEmpty = true) {res : AV} {ob' : List Ob} (hlen : ρ.length ≤ ob'.length) (hc : BCall P h (vs.map (inA ob ρ)) (inObs ob ρ) res ob')
    (hok : (K (St.put ⟨s.tm, back ob ρ ob'⟩ o.dst (outA ob ρ res))).ok P w0 g0 o0 N Q) : o.wp P a w (Good ty P w0 g0 o0 N Q K o.op w) R := by
  obtain ⟨g, M, hS, h0⟩ := hs.rel
  have hfr := ev_rel hS f
  rw [hf] at hfr
  have hL : ARelL w g s.ob (args.toList.map a.eval) (args.toList.map (ev s)) := by
    refine ⟨by simp, fun j v x hv hx => ?_⟩
    rw [List.getElem?_map, Option.map_eq_some_iff] at hv hx
    obtain ⟨q, hq, rfl⟩ := hv
    obtain ⟨q', hq', rfl⟩ := hx
    rw [hq] at hq'; cases hq'
    exact (ev_rel hS q).to1 (each_live _ _ _ _ he _ (List.mem_map.2 ⟨q, List.mem_of_getElem? hq, rfl⟩))
  obtain ⟨g1, M1, E1, L1, G1⟩ := frzL _ _ g s.ob vs ob M hL he
  have hrun := callee_run (P := P) (w := w) ho hfr.valEq hc.1
  unfold Oper.wp
  rw [hrun]
  show Calls P h (args.map a.eval) w _
  have hargs : args.map a.eval = (args.toList.map a.eval).toArray := by apply Array.ext'; simp
  rw [hargs]
  refine (hc.2 w (g1.ren (ρ.map some)) _ (mem_in M1 hon hth) ⟨by simp [L1.1], fun j v x hv hx => ?_⟩).mono ?_
  · rw [List.getElem?_map, Option.map_eq_some_iff] at hx
    obtain ⟨x', hx', rfl⟩ := hx
    have h1 := L1.2 j v x' hv hx'
    have h2 := inA_rel hon hth h1.to
    cases x' with
    | agg cs => exact h2
    | tup _ => exact (show False from h1).elim
    | box i o => exact h2.to1' (by simp only [inA, inC]; split <;> simp)
    | row i e => exact h2.to1' (by simp only [inA, inC]; split <;> (try split) <;> (try split) <;> simp)
    | _ => exact h2
  rintro e w' ⟨v, g2, rfl, M2, R2, S2⟩
  have C : CallAt w g1 ob ρ w' g2 ob' := ⟨hon, hth, hlen, M1, M2, S2⟩
  have hS1 : Slots w g1 ⟨s.tm, ob⟩ a := fun t => (hS t).ext E1
  have hs1 : Sim w0 g0 o0 N ⟨s.tm, ob⟩ a w := ⟨hs.defers, hs.size, g1, M1, hS1, h0.trans (Step.ghost E1 G1)⟩
  refine ⟨fun hqu => ?_, _, sim_put (s := ⟨s.tm, ob⟩) hs1 hS1 (h0.trans (Step.ghost E1 G1)) C.mem C.step hd (C.rel R2), hok⟩
  rcases hq with hq | hq
  · simp [ho, quietW, hq] at hqu
  · have hr : ρ = [] := by simpa using hq
    subst hr
    exact ⟨S2.os, S2.tape, S2.output, S2.size, fun b hb => S2.keep b hb (by
      cases hx : (g1.ren (([] : List Nat).map some)).G b with
      | none => rfl
      | some j =>
        obtain ⟨i, hi, _⟩ := ren_Gof hx
        simp at hi)⟩
theorem op_sound (hT : TyOk P ty) {cs : Nat → List AV → List Ob → Option (AV × List Ob)} {K : St → Tree} {o : Oper} {s : St} {a : Act} {w : World} {R : Exit → Act → World → Prop} (hs : Sim w0 g0 o0 N s a w) (hd : ∀ t, o.dst = some t → t < N)
    (hok : (aop std ty cs K o s).ok P w0 g0 o0 N Q) : o.wp P a w (Good ty P w0 g0 o0 N Q K o.op w) R := by
  have still : ∀ {s : St}, Sim w0 g0 o0 N s a w → ∀ {q : Option Prop} {v : AV}, aval std ty s o.op = some (q, v) → (∀ r, q = some r → r) → (K (St.put s o.dst v)).ok P w0 g0 o0 N Q → o.wp P a w (Good ty P w0 g0 o0 N Q K o.op w) R :=
    fun hs _ _ h hq hk => op_still hs hd (fun g M hS => aval_sound hT hS M h hq) hk
  -- what stands behind 'aval'
  have rest0 : ∀ {s : St}, Sim w0 g0 o0 N s a w → (aopRest std ty K o s o.op).ok P w0 g0 o0 N Q → o.wp P a w (Good ty P w0 g0 o0 N Q K o.op w) R := by
    intro s hs h
    unfold aopRest at h
    split at h
    · rename_i v hv
      exact still hs hv (fun r h => by cases h) h
    · rename_i q v hv
      exact still hs hv (fun r hr => by cases hr; exact h.1) h.2
    · split at h
      · rename_i src dst x ho
        split at h
        · rename_i b hb
          split at h
          · rename_i hk
            exact op_bytes hT hs hd ho hb hk.1 hk.2.1 hk.2.2 h.1 h.2
          · exact h.elim
        · rename_i id ep hx
          split at h
          · rename_i et sz e xs hob
            split at h
            · rename_i hk
              obtain ⟨rfl, rfl, rfl, hk1, hk2⟩ := hk
              exact op_mark hT hs hd ho hx hob hk1 hk2 h.1 h.2
            · exact h.elim
          · exact h.elim
        · exact h.elim
      · exact h.elim
  have rest : (aopRest std ty K o s o.op).ok P w0 g0 o0 N Q → o.wp P a w (Good ty P w0 g0 o0 N Q K o.op w) R := rest0 hs
  obtain ⟨op, ho⟩ : ∃ op, o.op = op := ⟨_, rfl⟩
  cases op with
  | binOp op T x y T' =>
    rcases nilq_ok (w := w) (a := a) hT ho hok with h | ⟨z, h1, h2⟩
    · exact rest h
    · exact op_still hs hd (fun g M hS => h2 g _ hS) h1
  | assign x =>
    simp only [aop, ho] at hok
    exact rest0 (commit_sim x hs) (by rw [ho]; exact hok)
  | slice T x lo hi m =>
    cases lo with
    | none => exact rest (by rw [ho]; simpa only [aop, ho] using hok)
    | some l =>
      simp only [aop, ho] at hok
      exact rest0 (thaw_sim x hs) (by rw [ho]; exact hok)
  | alloc T =>
    simp only [aop, ho] at hok
    split at hok
    · rename_i hk; exact op_alloc hT hs hd ho hk hok
    · exact hok.elim
  | box T x =>
    simp only [aop, ho] at hok
    split at hok
    · rename_i hk; exact op_box hs hd ho hk hok
    · exact hok.elim
  | store T x y =>
    simp only [aop, ho] at hok
    have hs := commit_sim y hs
    generalize commit std s y = s1 at hok hs
    unfold aopStore at hok
    split at hok
    · rename_i id off hx
      split at hok
      · rename_i c hb
        split at hok
        · rename_i hk
          exact op_store hT hs hd ho hx hb hk.1 hk.2.1 hk.2.2.1 hk.2.2.2 hok
        · exact hok.elim
      · exact hok.elim
    · exact hok.elim
  | buildSlice T len parts =>
    simp only [aop, ho] at hok
    split at hok
    · rename_i xs ob he
      split at hok
      · rename_i hk
        exact op_buildSlice hT hs hd ho he hk.1 hk.2.1 hk.2.2.1 hk.2.2.2.1 hk.2.2.2.2.1 hk.2.2.2.2.2.1 hk.2.2.2.2.2.2 hok
      · exact hok.elim
    · exact hok.elim
  | range T x =>
    simp only [aop, ho] at hok
    split at hok
    · rename_i b hb
      split at hok
      · rename_i hk; exact op_range hT hs hd ho hb hk hok
      · exact hok.elim
    · exact hok.elim
  | next it b =>
    cases b with
    | false => simp [aop, ho, aopRest, aval, Tree.ok] at hok
    | true =>
      simp only [aop, ho] at hok
      split at hok
      · rename_i id hi
        split at hok
        · rename_i b pos hob
          exact op_next hs hd ho hi hob hok.1 hok.2
        · exact hok.elim
      · exact hok.elim
  | call c =>
    obtain ⟨callee, args, tys⟩ := c
    cases callee with
    | builtin b =>
      cases b with
      | append =>
        simp only [aop, ho] at hok
        split at hok
        · rename_i x y T U ha ht
          split at hok
          · rename_i sz news hsrc
            split at hok
            · rename_i hel
              obtain ⟨hsubk, hel⟩ := hel
              have hpos : 0 < sz := by obtain ⟨e, _, _, _, _, h⟩ := el_facts hT hel; exact h
              split at hok
              · rename_i hx
                have hlen : s.ob.length = s.ob.length := rfl
                have hset : (s.ob ++ [Ob.row (tyLook T ty).elem sz false 0 []]).set s.ob.length (.row (tyLook T ty).elem sz false (0 + 1) (std.app [] news)) = s.ob ++ [.row (tyLook T ty).elem sz false 1 (std.app [] news)] := by
                  rw [List.set_append_right _ _ (Nat.le_refl _), Nat.sub_self]; rfl
                refine op_append_row hT hs hd ho ha ht (ob := s.ob ++ [.row (tyLook T ty).elem sz false 0 []]) (fun g M => ⟨M.addRow hpos, Ext.addRow _, Step.addRow _⟩) (id := s.ob.length) get_new (xs' := []) (fun g M hS => ?_) (fun h => by cases h) hel rfl hsrc hsubk hok.1 ?_
                · have hxr := ev_rel hS x
                  rw [hx] at hxr
                  rw [hxr.valEq]
                  refine ⟨[], World.ownsRow_nil _ _ _ _, ?_, Alike.nil, ?_, ?_, ?_⟩
                  · intro b h; cases h
                  · intro x h; cases h
                  · intro b h; cases h
                  · intro _ j y h; simp at h
                · rw [hset]; exact hok.2
              · rename_i id ep hx
                split at hok
                · rename_i et sz' fz e xs hob
                  split at hok
                  · rename_i hk
                    obtain ⟨rfl, rfl, rfl⟩ := hk
                    refine op_append_row hT hs hd ho ha ht (ob := s.ob) (fun g M => ⟨M, Ext.refl, Step.refl⟩) hob (fun g M hS => ?_) (fun _ => rfl) hel rfl hsrc hsubk hok.1 hok.2
                    have hxr := ev_rel hS x
                    rw [hx] at hxr
                    obtain ⟨_, et, sz, fz, e, xs, h1, h2, h3⟩ := hxr
                    rw [hob] at h1
                    cases h1
                    exact h3 rfl
                  · exact hok.elim
                · exact hok.elim
              · rename_i id ep k hx
                split at hok
                · rename_i et sz' e xs hob
                  split at hok
                  · rename_i hk
                    obtain ⟨rfl, rfl, rfl⟩ := hk
                    refine op_append_row hT hs hd ho ha ht (ob := s.ob) (fun g M => ⟨M, Ext.refl, Step.refl⟩) hob (xs' := std.cut xs 0 k) (fun g M hS => ?_) (fun h => by cases h) hel rfl hsrc hsubk hok.1 hok.2
                    have hxr := ev_rel hS x
                    rw [hx] at hxr
                    obtain ⟨_, et, sz, fz, e, xs, h1, h2, h3⟩ := hxr
                    rw [hob] at h1
                    cases h1
                    have e : std.cut xs 0 k = xs.take k.toNat := by simp [std]
                    rw [e]
                    exact (h3 rfl).2.2
                  · exact hok.elim
                · exact hok.elim
              · exact hok.elim
            · exact hok.elim
          · exact hok.elim
        · exact hok.elim
      | _ => exact rest (by rw [ho]; simpa only [aop, ho] using hok)
    | invoke _ _ => exact rest (by rw [ho]; simpa only [aop, ho] using hok)
    | value f =>
      simp only [aop, ho] at hok
      split at hok
      · rename_i h ca cb hf
        split at hok
        · rename_i hab
          obtain rfl : ca = #[] := Array.eq_empty_of_size_eq_zero hab.1
          obtain rfl : cb = #[] := Array.eq_empty_of_size_eq_zero hab.2
          split at hok
          · rename_i vs ob he
            split at hok
            · rename_i hk
              split at hok
              · rename_i res ob' hcs
                split at hok
                · rename_i hlen
                  exact op_call hs hd ho hf he hk.1 hk.2.1 hk.2.2 hlen hok.1 hok.2
                · exact hok.elim
              · exact hok.elim
            · exact hok.elim
          · exact hok.elim
        · exact hok.elim
      · exact hok.elim
  | _ => exact rest (by rw [ho]; simpa only [aop, ho] using hok)
end
end Go.Proofs.Ytblafdmmebiagaa
namespace Go.Proofs.Ytblafdmmebiagaa
open Go.RowKit Go.Lib
section
variable {P : Program} {ops : Array Oper} {Q : Exit → Act → World → Prop} {md : Region.Mode} {late : Nat → Bool}
def wpR (P : Program) (md : Region.Mode) (ops : Array Oper) (late : Nat → Bool) (Q : Exit → Act → World → Prop) : Nat → Array Bool → Act → World → Prop
  | 0, listed, a, w => Region.ready md ops listed = [] ∧ Q .normal a w
  | n + 1, listed, a, w => (Region.ready md ops listed = [] → Q .normal a w) ∧
      ∀ i ∈ Region.ready md ops listed, wpOp P ops Q i (fun a' w' => (late i = false → LeB w w') ∧ wpR P md ops late Q n (listed.setIfInBounds i true) a' w') a w
theorem wpAny_of_R : ∀ (n : Nat) (listed : Array Bool) (a : Act) (w : World), wpR P md ops late Q n listed a w → wpAny P md ops Q n listed a w
  | 0, _, _, _, h => h
  | n + 1, _, _, _, h => ⟨h.1, fun i hi => wpOp_mono (fun a' w' h' => wpAny_of_R n _ a' w' h'.2) (h.2 i hi)⟩
def Closed (md : Region.Mode) (ops : Array Oper) (listed : Array Bool) : Prop :=
  ∀ (j : Nat) oj, ops[j]? = some oj → listed.getD j true = true → ∀ e ∈ oj.after, Region.binds md e = true → listed.getD e.on true = true
def anc (md : Region.Mode) (ops : Array Oper) (i : Nat) : Nat → Nat → Bool
  | 0, _ => false
  | n + 1, j => match ops[j]? with
    | some oj => oj.after.any fun e => Region.binds md e && (e.on == i || anc md ops i n e.on)
    | none => false
theorem getD_mono {listed : Array Bool} {k : Nat} (h : listed.getD k false = true) : listed.getD k true = true := by
  rcases Nat.lt_or_ge k listed.size with h' | h'
  · simp [h'] at h ⊢; exact h
  · simp [Nat.not_lt.2 h'] at h ⊢
theorem Closed.set {listed : Array Bool} (h : Closed md ops listed) {j : Nat} (hr : j ∈ Region.ready md ops listed) : Closed md ops (listed.setIfInBounds j true) := by
  have up : ∀ k, listed.getD k true = true → (listed.setIfInBounds j true).getD k true = true := fun k hk => by
    by_cases e : j = k
    · subst e
      rcases Nat.lt_or_ge j listed.size with h' | h'
      · simp [h']
      · simp [Nat.not_lt.2 h']
    · rw [getD_set_ne true e]; exact hk
  intro k ok hk hl e he hb
  by_cases hjk : j = k
  · subst hjk
    obtain ⟨_, o, ho, hall⟩ := mem_ready.1 hr
    rw [hk] at ho; cases ho
    exact up _ (getD_mono (hall e he hb))
  · rw [getD_set_ne true hjk] at hl
    exact up _ (h k ok hk hl e he hb)
theorem anc_not {listed : Array Bool} (h : Closed md ops listed) {i : Nat} (hi : listed.getD i true = false) : ∀ (n j : Nat), anc md ops i n j = true → ∀ oj, ops[j]? = some oj →
    ¬ (∀ e ∈ oj.after, Region.binds md e = true → listed.getD e.on true = true)
  | 0, _, h0, _, _, _ => by cases h0
  | n + 1, j, h0, oj, hj, hall => by
    simp only [anc, hj] at h0
    obtain ⟨e, he, hb⟩ := Array.any_eq_true'.1 h0
    simp only [Bool.and_eq_true, Bool.or_eq_true, beq_iff_eq] at hb
    obtain ⟨hb, h1 | h1⟩ := hb
    · have := hall e he hb
      rw [h1, hi] at this; cases this
    · have hl := hall e he hb
      cases hk : ops[e.on]? with
      | none =>
        cases n <;> simp [anc, hk] at h1
      | some ok => exact anc_not h hi n e.on h1 ok hk (h e.on ok hk hl)
theorem wpR_first {i : Nat} {oi : Oper} {v : Value} {rd : Bool} (hi : ops[i]? = some oi)
    (hsel : ∀ (j : Nat) (o : Oper) cs b, ops[j]? = some o → o.op ≠ .select cs b)
    (hQ : ∀ c a w, Q (.panic c) (a.put oi.dst v) w → Q (.panic c) a w) (hli : late i = false)
    (hlate : rd = true → ∀ j oj, ops[j]? = some oj → late j = true → anc md ops i ops.size j = true) :
    ∀ (n : Nat) (listed : Array Bool) (a : Act) (w : World), Closed md ops listed →
      (∀ j oj, ops[j]? = some oj → j ≠ i → listed.getD j true = false → (∀ e ∈ oj.after, Region.binds md e = true → e.on ≠ i) → oi.apart ops oj = true) →
      i ∈ Region.ready md ops listed → YieldsIf P ops (fun W => rd = true → LeB w W) oi v a →
      wpR P md ops late Q n (listed.setIfInBounds i true) (a.put oi.dst v) w → wpR P md ops late Q (n + 1) listed a w := by
  intro n
  induction n with
  | zero =>
    intro listed a w hC _ hr hy H
    refine ⟨fun h => (by rw [h] at hr; cases hr), fun j hj => ?_⟩
    by_cases hji : j = i
    · subst hji; exact hy.wpOp hi (fun _ => LeB.refl w) ⟨fun _ => LeB.refl w, H⟩
    · have := ready_mono hj hji
      rw [H.1] at this
      cases this
  | succ n ih =>
    intro listed a w hC hfree hr hy H
    refine ⟨fun h => (by rw [h] at hr; cases hr), fun j hj => ?_⟩
    by_cases hji : j = i
    · subst hji; exact hy.wpOp hi (fun _ => LeB.refl w) ⟨fun _ => LeB.refl w, H⟩
    · have h1 := H.2 j (ready_mono hj hji)
      obtain ⟨hjun, oj, hoj, hall⟩ := mem_ready.1 hj
      have hun := (mem_ready.1 hr).1
      have hnot : ∀ e ∈ oj.after, Region.binds md e = true → e.on ≠ i := fun e he hb heq => by
        have h1 := hall e he hb
        rw [heq] at h1
        have := getD_mono h1
        rw [hun] at this; cases this
      have h2 := wpOp_putIf (S := fun W => rd = true → LeB w W) hoj (hfree j oj hoj hji hjun hnot) (fun cs b => hsel i oi cs b hi) (fun cs b => hsel j oj cs b hoj) hQ hy h1
      have hfree' : ∀ k ok, ops[k]? = some ok → k ≠ i → (listed.setIfInBounds j true).getD k true = false →
          (∀ e ∈ ok.after, Region.binds md e = true → e.on ≠ i) → oi.apart ops ok = true := fun k ok hk hki hun hno => by
        refine hfree k ok hk hki ?_ hno
        by_cases hjk : j = k
        · subst hjk; exact hjun
        · rw [getD_set_ne true hjk] at hun; exact hun
      refine wpOp_mono (fun a' w' h3 => ?_) h2
      obtain ⟨h3, h4, h5⟩ := h3
      -- what is read stays
      have hle : rd = true → LeB w w' := fun hri => by
        refine h4 ?_
        cases hlj : late j with
        | false => rfl
        | true => exact (anc_not hC hun _ _ (hlate hri j oj hoj hlj) oj hoj (fun e he hb => getD_mono (hall e he hb))).elim
      refine ⟨h4, ih (listed.setIfInBounds j true) a' w' (hC.set hj) hfree' (ready_mono hr (Ne.symm hji)) (YieldsIf.weaken h3 fun V hV hri => LeB.trans _ _ _ (hle hri) (hV hri)) ?_⟩
      rw [Array.setIfInBounds_comm _ _ hji]
      exact h5
end
def stillO (ty : Tys) : Op → Bool
  | .alloc _ | .box _ _ | .store _ _ _ | .buildSlice _ _ _ | .range _ _ | .next _ _ => false
  | .call { callee := .builtin .append, .. } | .call { callee := .value _, .. } => false
  | .convert _ dst _ => !(tyLook dst ty).sl
  | _ => true
def lateO (ty : Tys) (ops : Array Oper) (j : Nat) : Bool := match ops[j]? with
  | some o => !quietW ty o.op
  | none => false
def OT.heads : OT → List Nat
  | .nil => []
  | .cons i _ => [i]
  | .fork a b => a.heads ++ b.heads
def drawOk (md : Region.Mode) (ty : Tys) (ops : Array Oper) : OT → Nat → Array Bool → Bool → Bool
  | .nil, n, listed, among => n == 0 && !among && (Region.ready md ops listed).isEmpty
  | .cons i rest, n, listed, among => n != 0 && (match ops[i]? with
      | some o => (if among then (Region.ready md ops listed).contains i else Region.ready md ops listed == [i] || (stillO ty o.op && (Region.ready md ops listed).contains i && Region.free md ops listed i &&
          (!readsM o.op || (List.range ops.size).all fun j => !lateO ty ops j || anc md ops i ops.size j)))
      | none => false) && drawOk md ty ops rest (n - 1) (listed.setIfInBounds i true) false
  | .fork a b, n, listed, among => (among || (!(Region.ready md ops listed).isEmpty && (Region.ready md ops listed).all fun i => (OT.fork a b).heads.contains i)) &&
      drawOk md ty ops a n listed true && drawOk md ty ops b n listed true
def ordOk (md : Region.Mode) (ty : Tys) (ord : Nat → OT) : Code → Bool
  | .region id ops draw => if draw then Region.noSelect ops && drawOk md ty ops ((ord id).or ops.size) ops.size (Array.replicate ops.size false) false else true
  | .seq a b => ordOk md ty ord a && ordOk md ty ord b
  | .cond _ a b => ordOk md ty ord a && ordOk md ty ord b
  | .block _ c => ordOk md ty ord c
  | .loop c => ordOk md ty ord c
  | _ => true
def dstOk (N : Nat) : Code → Bool
  | .region _ ops _ => ops.all fun o => match o.dst with | some d => decide (d < N) | none => true
  | .seq a b => dstOk N a && dstOk N b
  | .cond _ a b => dstOk N a && dstOk N b
  | .block _ c => dstOk N c
  | .loop c => dstOk N c
  | _ => true
section
variable {P : Program} {ty : Tys} {w0 : World} {g0 : Gh} {o0 : List Ob} {N : Nat} {Q : Ex → St → Prop}
theorem still_sound (hT : TyOk P ty) {cs : Nat → List AV → List Ob → Option (AV × List Ob)} {K : St → Tree} {o : Oper} {s : St} {a : Act} {w : World} (hst : stillO ty o.op = true)
    (hok : (aop std ty cs K o s).ok P w0 g0 o0 N Q) : ∃ s1 x, (∀ a w, Sim w0 g0 o0 N s a w → Sim w0 g0 o0 N s1 a w) ∧ (K (St.put s1 o.dst x)).ok P w0 g0 o0 N Q ∧ ∀ g, Mem w g s1.ob → Slots w g s1 a → Yld P w g s1 a o (readsM o.op) x := by
  have rest0 : ∀ s1, (∀ a w, Sim w0 g0 o0 N s a w → Sim w0 g0 o0 N s1 a w) → (aopRest std ty K o s1 o.op).ok P w0 g0 o0 N Q → ∃ s1 x, (∀ a w, Sim w0 g0 o0 N s a w → Sim w0 g0 o0 N s1 a w) ∧ (K (St.put s1 o.dst x)).ok P w0 g0 o0 N Q ∧ ∀ g, Mem w g s1.ob → Slots w g s1 a → Yld P w g s1 a o (readsM o.op) x := by
    intro s1 h1 h
    unfold aopRest at h
    split at h
    · rename_i v hv
      exact ⟨s1, v, h1, h, fun g M hS => aval_sound hT hS M hv (fun r h => by cases h)⟩
    · rename_i q v hv
      exact ⟨s1, v, h1, h.2, fun g M hS => aval_sound hT hS M hv (fun r hr => by cases hr; exact h.1)⟩
    · split at h
      · rename_i src dst x ho
        rw [ho] at hst
        simp only [stillO, Bool.not_eq_true'] at hst
        split at h
        · split at h
          · rename_i hk
            rw [hk.2.1] at hst; cases hst
          · exact h.elim
        · split at h
          · split at h
            · rename_i hk
              rw [← hk.2.1, hk.2.2.2.1] at hst; cases hst
            · exact h.elim
          · exact h.elim
        · exact h.elim
      · exact h.elim
  have rest := rest0 s (fun _ _ h => h)
  obtain ⟨op, ho⟩ : ∃ op, o.op = op := ⟨_, rfl⟩
  cases op with
  | assign x =>
    simp only [aop, ho] at hok
    exact rest0 _ (fun a w h => commit_sim x h) (by rw [ho]; exact hok)
  | slice T x lo hi m =>
    cases lo with
    | none => exact rest (by rw [ho]; simpa only [aop, ho] using hok)
    | some l =>
      simp only [aop, ho] at hok
      exact rest0 _ (fun a w h => thaw_sim x h) (by rw [ho]; exact hok)
  | binOp op T x y T' =>
    rcases nilq_ok (w := w) (a := a) hT ho hok with h | ⟨z, h1, h2⟩
    · exact rest h
    · exact ⟨s, z, fun _ _ h => h, h1, fun g _ hS => h2 g _ hS⟩
  | alloc T => simp [ho, stillO] at hst
  | box T x => simp [ho, stillO] at hst
  | store T x y => simp [ho, stillO] at hst
  | buildSlice T len parts => simp [ho, stillO] at hst
  | range T x => simp [ho, stillO] at hst
  | next it b => simp [ho, stillO] at hst
  | call c =>
    obtain ⟨callee, args, tys⟩ := c
    cases callee with
    | builtin b =>
      cases b with
      | append => simp [ho, stillO] at hst
      | _ => exact rest (by rw [ho]; simpa only [aop, ho] using hok)
    | invoke _ _ => exact rest (by rw [ho]; simpa only [aop, ho] using hok)
    | value f => simp [ho, stillO] at hst
  | _ => exact rest (by rw [ho]; simpa only [aop, ho] using hok)
end
end Go.Proofs.Ytblafdmmebiagaa
namespace Go.Proofs.Ytblafdmmebiagaa
open Go.RowKit Go.Lib
section
variable {P : Program} {ty : Tys} {w0 : World} {g0 : Gh} {o0 : List Ob} {N : Nat} {Q : Ex → St → Prop} {w : World} {a : Act} {s : St}
theorem sim_known (hs : Sim w0 g0 o0 N s a w) {d : Nat} {b : Bool} (hv : lk d s.tm = .val (.bool b)) (c : Bool) (hc : b = c) : Sim w0 g0 o0 N (s.put (some d) (.kb c)) a w := by
  subst hc
  obtain ⟨g, M, hS, h0⟩ := hs.rel
  refine ⟨hs.defers, hs.size, g, M, fun t => ?_, h0⟩
  show ARel w g s.ob _ (if t = d then .kb b else lk t s.tm)
  by_cases e : t = d
  · subst e
    rw [if_pos rfl]
    have h := hS t
    rw [hv] at h
    exact h.valEq
  · rw [if_neg e]; exact hS t
theorem sim_undef (hs : Sim w0 g0 o0 N s a w) {d : Option Nat} (hd : ∀ t, d = some t → t < N) : Sim w0 g0 o0 N (s.put d (.tup [])) (a.put d undef) w := by
  obtain ⟨g, M, hS, h0⟩ := hs.rel
  exact sim_put (s := s) (ob' := s.ob) hs hS h0 M Step.refl hd (v := undef) (x := .tup []) ⟨#[], rfl, rfl, fun j y u h => by simp at h⟩
theorem sim_bool (hs : Sim w0 g0 o0 N s a w) {d : Nat} {b : Bool} (hv : lk d s.tm = .kb b) : a.tmps.getD d undef = .bool b := by
  obtain ⟨g, M, hS, h0⟩ := hs.rel
  have h := hS d
  rw [hv] at h
  exact h
theorem want_at {ops : Array Oper} (hs : Sim w0 g0 o0 N s a w) {o : Oper} {j d : Nat} {b want : Bool} (hg : o.guard = some (j, want)) (hd : (ops[j]?).bind (·.dst) = some d) (hv : lk d s.tm = .kb b) :
    Region.wanted o (yielded ops a.tmps) = (b == want) := by
  have h := sim_bool hs hv
  have h1 : a.tmps[d]? = some (.bool b) := by
    rw [Array.getD_eq_getD_getElem?] at h
    cases hx : a.tmps[d]? with
    | none => rw [hx] at h; cases h
    | some x => rw [hx] at h; exact congrArg some h
  simp only [Region.wanted, hg, yielded, hd, Option.bind_some, h1]
  cases b <;> cases want <;> rfl
theorem guard_sound {cs : Nat → List AV → List Ob → Option (AV × List Ob)} {ops : Array Oper} {K : St → Tree} {i : Nat} {rest : OT} {o : Oper} (ho : ops[i]? = some o) (hs : Sim w0 g0 o0 N s a w)
    (hok : (aops std ty cs ops.toList K (.cons i rest) s).ok P w0 g0 o0 N Q) :
    (Region.wanted o (yielded ops a.tmps) = true ∧ ∃ s', Sim w0 g0 o0 N s' a w ∧ (aop std ty cs (aops std ty cs ops.toList K rest) o s').ok P w0 g0 o0 N Q) ∨
    (Region.wanted o (yielded ops a.tmps) = false ∧ ∃ s', Sim w0 g0 o0 N s' a w ∧ (aops std ty cs ops.toList K rest (s'.put o.dst (.tup []))).ok P w0 g0 o0 N Q) := by
  simp only [aops, Array.getElem?_toList, ho] at hok
  split at hok
  · rename_i hg
    exact .inl ⟨by simp [Region.wanted, hg], s, hs, hok⟩
  · rename_i j want hg
    split at hok
    · exact hok.elim
    · rename_i d hd
      split at hok
      · rename_i b hv
        have hw := want_at (ops := ops) hs hg hd hv
        split at hok
        · exact .inl ⟨hw, s, hs, hok⟩
        · exact .inl ⟨hw, s, hs, hok⟩
        · rename_i hne1 hne2
          refine .inr ⟨?_, s, hs, hok⟩
          rw [hw]
          cases b <;> cases want
          · exact (hne2 rfl rfl).elim
          · rfl
          · rfl
          · exact (hne1 rfl rfl).elim
      · rename_i b hv
        have e : ∀ c : Bool, lk d (s.put (some d) (.kb c)).tm = .kb c := fun c => if_pos rfl
        split at hok
        · obtain ⟨h1, h2⟩ := hok
          cases b with
          | true =>
            have hs' := sim_known hs hv true rfl
            exact .inl ⟨want_at (ops := ops) hs' hg hd (e true), _, hs', h1 rfl⟩
          | false =>
            have hs' := sim_known hs hv false rfl
            exact .inr ⟨want_at (ops := ops) hs' hg hd (e false), _, hs', h2 rfl⟩
        · obtain ⟨h1, h2⟩ := hok
          cases b with
          | true =>
            have hs' := sim_known hs hv true rfl
            exact .inr ⟨want_at (ops := ops) hs' hg hd (e true), _, hs', h1 rfl⟩
          | false =>
            have hs' := sim_known hs hv false rfl
            exact .inl ⟨want_at (ops := ops) hs' hg hd (e false), _, hs', h2 rfl⟩
      · rename_i hv
        refine .inr ⟨?_, s, hs, hok⟩
        obtain ⟨g, M, hS, h0⟩ := hs.rel
        have h1 := hS d
        rw [hv] at h1
        obtain ⟨vs, h2, _⟩ := h1
        rw [Array.getD_eq_getD_getElem?] at h2
        simp only [Region.wanted, hg, yielded, hd, Option.bind_some]
        cases hx : a.tmps[d]? with
        | none => cases want <;> rfl
        | some x =>
          rw [hx] at h2
          obtain rfl : x = .tuple vs := h2
          cases want <;> rfl
      · exact hok.elim
theorem dst_at {ops : Array Oper} (hd : (ops.all fun o => match o.dst with | some d => decide (d < N) | none => true) = true) {i : Nat} {o : Oper} (ho : ops[i]? = some o) : ∀ t, o.dst = some t → t < N := fun t ht => by
  have := Array.all_eq_true_iff_forall_mem.1 hd o (Array.mem_of_getElem? ho)
  simpa [ht] using this
theorem aops_sound (hT : TyOk P ty) {cs : Nat → List AV → List Ob → Option (AV × List Ob)} {ops : Array Oper} {K : St → Tree} {R : Exit → Act → World → Prop}
    (hd : (ops.all fun o => match o.dst with | some d => decide (d < N) | none => true) = true) (hK : ∀ s a w, Sim w0 g0 o0 N s a w → (K s).ok P w0 g0 o0 N Q → R .normal a w) :
    ∀ (l : List Nat) (s : St) (a : Act) (w : World), Sim w0 g0 o0 N s a w → (aops std ty cs ops.toList K (OT.of l) s).ok P w0 g0 o0 N Q → wpOps P ops R l a w
  | [], s, a, w, hs, hok => hK s a w hs hok
  | i :: rest, s, a, w, hs, hok => by
    unfold wpOps
    cases ho : ops[i]? with
    | none => simp [OT.of, aops, Array.getElem?_toList, ho, Tree.ok] at hok
    | some o =>
      rcases guard_sound (rest := OT.of rest) ho hs hok with ⟨hw, s', hs', h⟩ | ⟨hw, s', hs', h⟩
      · simp only [hw, if_true]
        exact .inl (Oper.wp_mono (fun a' w' hg => by
          obtain ⟨_, s2, hs2, h2⟩ := hg
          exact aops_sound hT hd hK rest s2 a' w' hs2 h2) (op_sound hT hs' (dst_at hd ho) h))
      · simp only [hw, Bool.false_eq_true, if_false]
        exact aops_sound hT hd hK rest _ _ w (sim_undef hs' (dst_at hd ho)) h
theorem aops_draw (hT : TyOk P ty) {cs : Nat → List AV → List Ob → Option (AV × List Ob)} {ops : Array Oper} {K : St → Tree} {R : Exit → Act → World → Prop} {md : Region.Mode}
    (hd : (ops.all fun o => match o.dst with | some d => decide (d < N) | none => true) = true) (hn : Region.noSelect ops = true) (hQ : ∀ c a (d : Tmp) v w, R (.panic c) (a.put (some d) v) w → R (.panic c) a w)
    (hK : ∀ s a w, Sim w0 g0 o0 N s a w → (K s).ok P w0 g0 o0 N Q → R .normal a w) :
    ∀ (t : OT) (n : Nat) (listed : Array Bool) (s : St) (a : Act) (w : World), Closed md ops listed → Sim w0 g0 o0 N s a w → (aops std ty cs ops.toList K t s).ok P w0 g0 o0 N Q →
      (drawOk md ty ops t n listed false = true → wpR P md ops (lateO ty ops) R n listed a w) ∧
      (drawOk md ty ops t n listed true = true → ∀ i ∈ t.heads, ∃ m, n = m + 1 ∧ wpOp P ops R i (fun a' w' => (lateO ty ops i = false → LeB w w') ∧ wpR P md ops (lateO ty ops) R m (listed.setIfInBounds i true) a' w') a w) := by
  intro t
  induction t with
  | nil =>
    intro n listed s a w hC hs hok
    refine ⟨fun hB => ?_, fun hB i hi => by cases hi⟩
    simp only [drawOk, Bool.and_eq_true, beq_iff_eq] at hB
    obtain ⟨⟨rfl, _⟩, h⟩ := hB
    exact ⟨by simpa using h, hK s a w hs hok⟩
  | fork x y ihx ihy =>
    intro n listed s a w hC hs hok
    have both : drawOk md ty ops x n listed true = true → drawOk md ty ops y n listed true = true → ∀ i ∈ (OT.fork x y).heads, ∃ m, n = m + 1 ∧ wpOp P ops R i (fun a' w' => (lateO ty ops i = false → LeB w w') ∧ wpR P md ops (lateO ty ops) R m (listed.setIfInBounds i true) a' w') a w := fun h1 h2 i hi => by
      rcases List.mem_append.1 hi with hi | hi
      · exact (ihx n listed s a w hC hs hok.1).2 h1 i hi
      · exact (ihy n listed s a w hC hs hok.2).2 h2 i hi
    refine ⟨fun hB => ?_, fun hB => ?_⟩
    · simp only [drawOk, Bool.and_eq_true, Bool.false_or] at hB
      obtain ⟨⟨⟨h0, h1⟩, h2⟩, h3⟩ := hB
      have hne : Region.ready md ops listed ≠ [] := by simpa using h0
      have hall : ∀ i ∈ Region.ready md ops listed, i ∈ (OT.fork x y).heads := fun i hi => by
        have := List.all_eq_true.1 h1 i hi
        simpa using this
      obtain ⟨i, hi⟩ := List.exists_mem_of_ne_nil _ hne
      obtain ⟨m, rfl, _⟩ := both h2 h3 i (hall i hi)
      refine ⟨fun h => absurd h hne, fun i hi => ?_⟩
      obtain ⟨m', e, h⟩ := both h2 h3 i (hall i hi)
      cases e; exact h
    · simp only [drawOk, Bool.and_eq_true] at hB
      exact both hB.1.2 hB.2
  | cons i rest ih =>
    intro n listed s a w hC hs hok
    cases ho : ops[i]? with
    | none => simp [aops, Array.getElem?_toList, ho, Tree.ok] at hok
    | some o =>
      -- taken from what may come next
      have loud : ∀ m, i ∈ Region.ready md ops listed → drawOk md ty ops rest m (listed.setIfInBounds i true) false = true →
          wpOp P ops R i (fun a' w' => (lateO ty ops i = false → LeB w w') ∧ wpR P md ops (lateO ty ops) R m (listed.setIfInBounds i true) a' w') a w := fun m hr hBr => by
        unfold wpOp
        simp only [ho]
        rcases guard_sound ho hs hok with ⟨hw, s', hs', h⟩ | ⟨hw, s', hs', h⟩
        · simp only [hw, if_true]
          exact .inl (Oper.wp_mono (fun a' w' hg => by
            obtain ⟨hq, s2, hs2, h2⟩ := hg
            refine ⟨fun hl => hq ?_, (ih m _ s2 a' w' (hC.set hr) hs2 h2).1 hBr⟩
            simpa [lateO, ho] using hl) (op_sound hT hs' (dst_at hd ho) h))
        · simp only [hw, Bool.false_eq_true, if_false]
          exact ⟨fun _ => LeB.refl w, (ih m _ _ _ w (hC.set hr) (sim_undef hs' (dst_at hd ho)) h).1 hBr⟩
      refine ⟨fun hB => ?_, fun hB => ?_⟩
      · simp only [drawOk, ho, Bool.and_eq_true, Bool.false_eq_true, if_false, Bool.or_eq_true, beq_iff_eq, bne_iff_ne, ne_eq] at hB
        obtain ⟨⟨hn0, hB⟩, hBr⟩ := hB
        obtain ⟨m, rfl⟩ : ∃ m, n = m + 1 := ⟨n - 1, by omega⟩
        simp only [Nat.add_sub_cancel] at hBr
        rcases hB with hr | ⟨⟨⟨hst, hr⟩, hf⟩, hrd⟩
        · refine ⟨fun h0 => (by rw [hr] at h0; cases h0), fun j hj => ?_⟩
          have hj' := hj
          rw [hr] at hj'
          obtain rfl := List.mem_singleton.1 hj'
          exact loud m hj hBr
        · have hr' : i ∈ Region.ready md ops listed := by simpa using hr
          have hli : lateO ty ops i = false := by
            simp only [lateO, ho, Bool.not_eq_false']
            revert hst
            cases o.op <;> simp only [stillO, quietW, Bool.false_eq_true, false_implies, implies_true]
            case convert src dst x =>
              intro h
              by_cases e : src = dst
              · subst e
                have h : (tyLook src ty).sl = false := by simpa using h
                simp [h]
              · simp [e]
            rename_i c
            obtain ⟨callee, args, tys⟩ := c
            cases callee with
            | builtin b => cases b <;> simp [stillO, quietW]
            | _ => simp [stillO, quietW]
          have hlate : readsM o.op = true → ∀ j oj, ops[j]? = some oj → lateO ty ops j = true → anc md ops i ops.size j = true := fun hrr j oj hj hl => by
            rcases hrd with h | h
            · rw [hrr] at h; simp at h
            · have := List.all_eq_true.1 h j (List.mem_range.2 (Array.getElem?_eq_some_iff.1 hj).1)
              simpa [hl] using this
          rcases guard_sound ho hs hok with ⟨hw, s', hs', h⟩ | ⟨hw, s', hs', h⟩
          · obtain ⟨s1, x, hs1, hx, hy⟩ := still_sound hT (w := w) (a := a) hst h
            have hs1 := hs1 _ _ hs'
            obtain ⟨g, M, hS, h0⟩ := hs1.rel
            obtain ⟨v, h1, h2⟩ := hy g M hS
            exact wpR_first ho (Region.noSelect_spec hn) (fun c a w => panic_put hQ c a _ _ w) hli hlate _ listed a w hC (Region.free_spec ho hf) hr' (.inl ⟨hw, fun W hW => h1 W hW⟩)
              ((ih m _ _ _ w (hC.set hr') (sim_put (s := s1) (ob' := s1.ob) hs1 hS h0 M Step.refl (dst_at hd ho) h2) hx).1 hBr)
          · exact wpR_first ho (Region.noSelect_spec hn) (fun c a w => panic_put hQ c a _ _ w) hli hlate _ listed a w hC (Region.free_spec ho hf) hr' (.inr ⟨hw, rfl⟩)
              ((ih m _ _ _ w (hC.set hr') (sim_undef hs' (dst_at hd ho)) h).1 hBr)
      · simp only [drawOk, ho, Bool.and_eq_true, if_true, bne_iff_ne, ne_eq] at hB
        obtain ⟨⟨hn0, hr⟩, hBr⟩ := hB
        obtain ⟨m, rfl⟩ : ∃ m, n = m + 1 := ⟨n - 1, by omega⟩
        simp only [Nat.add_sub_cancel] at hBr
        intro j hj
        obtain rfl := List.mem_singleton.1 hj
        exact ⟨m, rfl, loud m (by simpa using hr) hBr⟩
end
end Go.Proofs.Ytblafdmmebiagaa
namespace Go.Proofs.Ytblafdmmebiagaa
open Go.RowKit Go.Lib
theorem closed_start {md : Region.Mode} {ops : Array Oper} : Closed md ops (Array.replicate ops.size false) := fun j oj hj hl => by
  have : j < ops.size := (Array.getElem?_eq_some_iff.1 hj).1
  simp [this] at hl
section
variable {P : Program} {ty : Tys} {w0 : World} {g0 : Gh} {o0 : List Ob} {N : Nat} {Q : Ex → St → Prop}
theorem sim_later {s : St} {a : Act} {w w' : World} (hs : Sim w0 g0 o0 N s a w) (hb : LeB w w') : Sim w0 g0 o0 N s a w' := by
  obtain ⟨g, M, hS, h0⟩ := hs.rel
  have E := Ext.below M hb
  have h1 : Step w g s.ob w' g s.ob := ⟨hb.os, hb.tape, hb.output, hb.size, fun b h _ => hb.block b h, fun b id hG => .inl ⟨id, hG⟩, fun b o h => .inl h, E, Nat.le_refl _⟩
  exact ⟨hs.defers, hs.size, g, M.below hb, fun t => (hS t).ext E, h0.trans h1⟩
theorem aexec_sound (hT : TyOk P ty) (hm : P.follows .mixedOrders = true) {cs : Nat → List AV → List Ob → Option (AV × List Ob)} {ord : Nat → OT} :
    ∀ (c : Code) (K : Ex → St → Tree) (R : Exit → Act → World → Prop) (s : St) (a : Act) (w : World), dstOk N c = true → ordOk .any ty ord c = true →
      (∀ c a (d : Tmp) v w, R (.panic c) (a.put (some d) v) w → R (.panic c) a w) → (∀ e s a w, Sim w0 g0 o0 N s a w → (K e s).ok P w0 g0 o0 N Q → R e.conv a w) →
      Sim w0 g0 o0 N s a w → (aexec std ty cs ord c K s).ok P w0 g0 o0 N Q → c.wp P R a w := by
  intro c
  induction c with
  | skip => intro K R s a w _ _ _ hK hs hok; exact wp_skip (hK .normal s a w hs hok)
  | region id ops draw =>
    intro K R s a w hd ho hQ hK hs hok
    cases draw with
    | false =>
      exact wp_region (aops_sound hT hd (fun s a w hs h => hK .normal s a w hs h) _ s a w hs hok)
    | true =>
      simp only [ordOk, if_true, Bool.and_eq_true] at ho
      obtain ⟨h1, h3⟩ := ho
      refine wp_region_any hm (wpAny_of_R (late := lateO ty ops) _ _ _ _ ?_)
      exact (aops_draw hT hd h1 hQ (fun s a w hs h => hK .normal s a w hs h) _ _ _ s a _ closed_start (sim_later hs (LeB.drew w)) hok).1 h3
  | seq x y ihx ihy =>
    intro K R s a w hd ho hQ hK hs hok
    simp only [dstOk, ordOk, Bool.and_eq_true] at hd ho
    refine wp_seq (ihx _ _ s a w hd.1 ho.1 (fun c a d v w h => hQ c a d v w h) (fun e s a w hs h => ?_) hs hok)
    cases e with
    | normal => exact ihy K R s a w hd.2 ho.2 hQ hK hs h
    | exit i => exact hK (.exit i) s a w hs h
    | ret => exact hK .ret s a w hs h
  | cond c x y ihx ihy =>
    intro K R s a w hd ho hQ hK hs hok
    simp only [dstOk, ordOk, Bool.and_eq_true] at hd ho
    unfold aexec at hok
    split at hok
    · rename_i t
      split at hok
      · rename_i hv
        exact wp_cond_true (sim_bool hs hv) (ihx K R s a w hd.1 ho.1 hQ hK hs hok)
      · rename_i hv
        exact wp_cond_false (sim_bool hs hv) (ihy K R s a w hd.2 ho.2 hQ hK hs hok)
      · rename_i b hv
        obtain ⟨h1, h2⟩ := hok
        have e : ∀ c : Bool, lk t (s.put (some t) (.kb c)).tm = .kb c := fun c => if_pos rfl
        cases b with
        | true =>
          have hs' := sim_known hs hv true rfl
          exact wp_cond_true (sim_bool hs' (e true)) (ihx K R _ a w hd.1 ho.1 hQ hK hs' (h1 rfl))
        | false =>
          have hs' := sim_known hs hv false rfl
          exact wp_cond_false (sim_bool hs' (e false)) (ihy K R _ a w hd.2 ho.2 hQ hK hs' (h2 rfl))
      · exact hok.elim
    · exact wp_cond_true rfl (ihx K R s a w hd.1 ho.1 hQ hK hs hok)
    · exact wp_cond_false rfl (ihy K R s a w hd.2 ho.2 hQ hK hs hok)
    · exact hok.elim
  | block id c ih =>
    intro K R s a w hd ho hQ hK hs hok
    simp only [dstOk, ordOk] at hd ho
    refine wp_block (ih _ _ s a w hd ho (fun c a d v w h => hQ c a d v w h) (fun e s a w hs h => ?_) hs hok)
    cases e with
    | normal => exact hK .normal s a w hs h
    | ret => exact hK .ret s a w hs h
    | exit i =>
      show Exit.inBlock id R (.exit i) a w
      simp only [Exit.inBlock]
      simp only at h
      by_cases hi : i = id
      · rw [if_pos hi] at h ⊢
        exact hK .normal s a w hs h
      · rw [if_neg hi] at h ⊢
        exact hK (.exit i) s a w hs h
  | loop c ih =>
    intro K R s a w hd ho hQ hK hs hok
    refine wp_mono (hok a w hs) (fun e a' w' h => ?_)
    obtain ⟨e', s', rfl, hs', h'⟩ := h
    exact hK e' s' a' w' hs' h'
  | exit i => intro K R s a w _ _ _ hK hs hok; exact wp_exit (hK (.exit i) s a w hs hok)
  | ret => intro K R s a w _ _ _ hK hs hok; exact wp_ret (hK .ret s a w hs hok)
  | _ => intro K R s a w _ _ _ _ _ hok; exact hok.elim
end
end Go.Proofs.Ytblafdmmebiagaa
namespace Go.Proofs.Ytblafdmmebiagaa
open Go.RowKit Go.Lib
def ent : Nat → List AV → List (Nat × AV)
  | _, [] => []
  | k, x :: r => (k, x) :: ent (k + 1) r
theorem lk_ent (t : Nat) : ∀ (l : List AV) (k : Nat), lk t (ent k l) = if k ≤ t then l.getD (t - k) .dead else .dead
  | [], k => by simp [ent, lk]
  | x :: r, k => by
    simp only [ent, lk]
    by_cases h : t = k
    · subst h; simp
    · rw [if_neg h, lk_ent t r (k + 1)]
      by_cases h2 : k ≤ t
      · have e : t - k = (t - (k + 1)) + 1 := by omega
        rw [if_pos (by omega), if_pos h2, e, List.getD_cons_succ]
      · rw [if_neg (by omega), if_neg h2]
def resSem (tmps : Array Value) (rv : ResultVar) : Sem Value := match rv with
  | .tmp t => pure (tmps.getD t undef)
  | .cell a t => do loadVar t (← asAddr (tmps.getD a undef))
theorem results_eq (fn : Func) (tmps : Array Value) : results fn tmps = (do let vs ← fn.results.mapM (resSem tmps); pure (if h : vs.size = 1 then vs[0] else .tuple vs)) := by
  unfold results
  congr 1
section
variable {P : Program} {ty : Tys} {w0 w : World} {g0 g : Gh} {o0 : List Ob} {N : Nat} {s : St} {a : Act}
theorem res_one (hT : TyOk P ty) (M : Mem w g s.ob) (hS : Slots w g s a) {rv : ResultVar} {x : AV} (h : resOf ty s rv = some x) :
    ∃ v, Sem.run P (resSem a.tmps rv) w = .ok v w ∧ ARel w g s.ob v x := by
  cases rv with
  | tmp t =>
    refine ⟨a.tmps.getD t undef, rfl, ?_⟩
    have hr := hS t
    simp only [resOf] at h
    split at h
    · rename_i b hb
      obtain rfl : AV.val (.bool b) = x := by simpa using h
      rw [hb] at hr
      have e : a.tmps.getD t undef = .bool b := hr
      rw [e]
      exact PRel.to (.val _ rfl)
    · cases h
    · obtain rfl : lk t s.tm = x := by simpa using h
      exact hr
  | cell b T =>
    simp only [resOf] at h
    split at h
    · rename_i cs hcs
      by_cases hk : (tyLook T ty).ok = true ∧ (if (tyLook T ty).agg then (tyLook T ty).size else 1) ≤ cs.length
      · rw [if_pos hk] at h
        cases h
        obtain ⟨bl, of, hv, hc⟩ := cellsAt_rel M (hS b) hcs
        obtain ⟨v, h1, h2⟩ := load_cells (g := g) hT hk.1 hc hk.2
        refine ⟨v, ?_, h2⟩
        have h3 := h1 w (LeB.refl w)
        show (asAddr (a.tmps.getD b undef) >>= fun p => loadVar T p).run P w = _
        rw [hv]
        simpa [asAddr] using h3
      · rw [if_neg hk] at h; cases h
    · cases h
theorem res_list (hT : TyOk P ty) (M : Mem w g s.ob) (hS : Slots w g s a) : ∀ (rs : List ResultVar) (xs : List AV), allSome (rs.map (resOf ty s)) = some xs →
    ∃ vs, Sem.run P (rs.mapM (resSem a.tmps)) w = .ok vs w ∧ vs.length = xs.length ∧
      ∀ (j : Nat) v x, vs[j]? = some v → xs[j]? = some x → ARel w g s.ob v x
  | [], xs, h => by
    obtain rfl : [] = xs := by simpa [allSome] using h
    exact ⟨[], rfl, rfl, fun j v x h => by simp at h⟩
  | rv :: rs, xs, h => by
    cases h1 : resOf ty s rv with
    | none => simp [allSome, h1] at h
    | some x =>
      simp only [List.map_cons, h1, allSome, Option.map_eq_some_iff] at h
      obtain ⟨ys, h2, rfl⟩ := h
      obtain ⟨v, hv, hr⟩ := res_one hT M hS h1
      obtain ⟨vs, hvs, hl, hrs⟩ := res_list hT M hS rs ys h2
      refine ⟨v :: vs, ?_, by simp [hl], fun j y u hy hu => ?_⟩
      · simp only [List.mapM_cons, Sem.run_bind, hv, hvs, Result.andThen_ok, Sem.run_pure]
      · cases j with
        | zero =>
          obtain rfl : v = y := by simpa using hy
          obtain rfl : x = u := by simpa using hu
          exact hr
        | succ j => exact hrs j y u (by simpa using hy) (by simpa using hu)
theorem result_sound (hT : TyOk P ty) {keep : Bool} {fn : Func} (hs : Sim w0 g0 o0 N s a w) {res : AV} {ob' : List Ob} (h : resultA std ty keep fn.results.toList s = some (res, ob')) :
    ∃ v g', (results fn a.tmps).run P w = .ok v w ∧ Mem w g' ob' ∧ ARel w g' ob' v res ∧ Step w0 g0 o0 w g' ob' := by
  obtain ⟨g, M, hS, h0⟩ := hs.rel
  unfold resultA at h
  cases hx : allSome (fn.results.toList.map (resOf ty s)) with
  | none => rw [hx] at h; cases h
  | some xs =>
    rw [hx] at h
    obtain ⟨vs, hvs, hl, hrs⟩ := res_list hT M hS _ _ hx
    have hrun : (results fn a.tmps).run P w = .ok (if h : vs.toArray.size = 1 then vs.toArray[0] else .tuple vs.toArray) w := by
      rw [results_eq, Array.mapM_eq_mapM_toList, Sem.run_bind]
      have : (List.toArray <$> (fn.results.toList.mapM (resSem a.tmps))).run P w = .ok vs.toArray w := by
        rw [map_eq_pure_bind, Sem.run_bind, hvs]; rfl
      rw [this]; rfl
    have many : xs.length ≠ 1 → (eachM (frz std keep 9) s.ob xs).map (fun (ys, ob) => (AV.tup ys, ob)) = some (res, ob') →
        ∃ v g', (results fn a.tmps).run P w = .ok v w ∧ Mem w g' ob' ∧ ARel w g' ob' v res ∧ Step w0 g0 o0 w g' ob' := fun hne h => by
      simp only [Option.map_eq_some_iff] at h
      obtain ⟨⟨ys, ob1⟩, h1, h2⟩ := h
      cases h2
      have hL : ARelL w g s.ob vs xs := ⟨hl, fun j v x hv hx => (hrs j v x hv hx).to1 (each_live _ _ _ _ h1 _ (List.mem_of_getElem? hx))⟩
      obtain ⟨g', M', E', R', L'⟩ := frzL _ _ g s.ob ys ob1 M hL h1
      refine ⟨_, g', hrun, M', ?_, h0.trans (Step.ghost E' L')⟩
      have : ¬ vs.toArray.size = 1 := by simp; omega
      rw [dif_neg this]
      exact ⟨vs.toArray, rfl, by simpa using R'.1, fun j y u hy hu => R'.2 j y u (by simpa using hy) hu⟩
    cases xs with
    | nil => exact many (by simp) h
    | cons x r =>
      cases r with
      | cons x' r' => exact many (by simp) h
      | nil =>
        obtain ⟨v, rfl⟩ : ∃ v, vs = [v] := List.length_eq_one_iff.1 (by simpa using hl)
        obtain ⟨g', M', E', R', L'⟩ := frzTop M (hrs 0 v x rfl rfl) h
        exact ⟨v, g', hrun, M', R', h0.trans (Step.ghost E' L')⟩
end
def leC (x y : AV) : Prop := x = y ∨ (x = .val (.slice none 0 0) ∧ ∃ sz, y = .slc sz []) ∨ (y = .opt x ∧ isPtr x) ∨ x = .opt y
def leL : List AV → List AV → Prop
  | [], [] => True
  | x :: r, y :: r' => leC x y ∧ leL r r'
  | _, _ => False
def leA1 : AV → AV → Prop
  | .agg xs, .agg ys => leL xs ys
  | .agg _, _ => False
  | .tup _, _ => False
  | _, .agg _ => False
  | _, .tup _ => False
  | x, y => leC x y
def leT : List AV → List AV → Prop
  | [], [] => True
  | x :: r, y :: r' => leA1 x y ∧ leT r r'
  | _, _ => False
def leA (x y : AV) : Prop := match x with
  | .tup xs => (match y with
    | .tup ys => leT xs ys
    | _ => False)
  | x => leA1 x y
section
variable {w : World} {g : Gh} {ob : List Ob}
theorem leC_rel {v : Value} {x y : AV} (h : ARel0 w g ob v x) (hl : leC x y) : ARel0 w g ob v y := by
  rcases hl with rfl | ⟨rfl, sz, rfl⟩ | ⟨rfl, hp⟩ | rfl
  · exact h
  · cases (show v = _ from ARel.valEq (g := g) (w := w) (ob := ob) h)
    exact PRel.nil sz
  · have : PRel w g.A v x := by
      cases x with
      | val _ => exact h
      | ref _ => exact h
      | opt _ => exact h
      | _ => exact (show False from hp).elim
    exact PRel.opt _ _ this hp
  · exact (PRel.ofOpt (show PRel w g.A v (.opt y) from h)).1.to0
theorem leL_rel : ∀ {vs : List Value} {xs ys : List AV}, ARelC w g ob vs xs → leL xs ys → ARelC w g ob vs ys
  | vs, [], [], h, _ => h
  | _, [], _ :: _, _, hl => hl.elim
  | _, _ :: _, [], _, hl => hl.elim
  | [], x :: r, y :: r', h, _ => absurd h.1 (by simp)
  | v :: vs, x :: r, y :: r', h, hl => by
    have h1 := h.2 0 v x rfl rfl
    have h2 : ARelC w g ob vs r' := leL_rel (xs := r) ⟨by simpa using h.1, fun j a b ha hb => h.2 (j + 1) a b (by simpa using ha) (by simpa using hb)⟩ hl.2
    refine ⟨by simp [h2.1], fun j a b ha hb => ?_⟩
    cases j with
    | zero =>
      obtain rfl : v = a := by simpa using ha
      obtain rfl : y = b := by simpa using hb
      exact ⟨leC_rel h1.1 hl.1, h1.2⟩
    | succ j => exact h2.2 j a b (by simpa using ha) (by simpa using hb)
theorem ARel1.to0 {v : Value} {x : AV} (h : ARel1 w g ob v x) (hn : ∀ cs, x ≠ .agg cs) : ARel0 w g ob v x := by cases x <;> first | exact h | exact absurd rfl (hn _)
theorem leA1_rel {v : Value} {x y : AV} (h : ARel1 w g ob v x) (hl : leA1 x y) : ARel1 w g ob v y := by
  cases x with
  | agg xs =>
    cases y with
    | agg ys => obtain ⟨vs, rfl, h⟩ := h; exact ⟨vs, rfl, leL_rel h hl⟩
    | _ => exact (show False from hl).elim
  | tup _ => exact (show False from hl).elim
  | _ => cases y <;> first | exact (show False from hl).elim | exact (leC_rel (h.to0 (fun cs h => by cases h)) hl).to1
theorem leA_rel {v : Value} {x y : AV} (h : ARel w g ob v x) (hl : leA x y) : ARel w g ob v y := by
  cases x with
  | tup xs =>
    cases y with
    | tup ys =>
      obtain ⟨vs, rfl, h1, h2⟩ := h
      have key : ∀ (xs ys : List AV) (vs : List Value), leT xs ys → vs.length = xs.length → (∀ (j : Nat) y u, vs[j]? = some y → xs[j]? = some u → ARel1 w g ob y u) → vs.length = ys.length ∧ ∀ (j : Nat) y u, vs[j]? = some y → ys[j]? = some u → ARel1 w g ob y u := by
        intro xs
        induction xs with
        | nil =>
          intro ys vs hl hn hr
          cases ys with
          | nil => exact ⟨hn, hr⟩
          | cons _ _ => exact (show False from hl).elim
        | cons x r ih =>
          intro ys vs hl hn hr
          cases ys with
          | nil => exact (show False from hl).elim
          | cons y r' =>
            cases vs with
            | nil => simp at hn
            | cons v vs =>
              obtain ⟨h3, h4⟩ := ih r' vs hl.2 (by simpa using hn) (fun j a b ha hb => hr (j + 1) a b (by simpa using ha) (by simpa using hb))
              refine ⟨by simp [h3], fun j a b ha hb => ?_⟩
              cases j with
              | zero =>
                obtain rfl : v = a := by simpa using ha
                obtain rfl : y = b := by simpa using hb
                exact leA1_rel (hr 0 v x rfl rfl) hl.1
              | succ j => exact h4 j a b (by simpa using ha) (by simpa using hb)
      obtain ⟨h3, h4⟩ := key xs ys vs.toList hl (by simpa using h1) (fun j a b ha hb => h2 j a b (by simpa using ha) hb)
      exact ⟨vs, rfl, by simpa using h3, fun j a b ha hb => h4 j a b (by simpa using ha) hb⟩
    | _ => exact (show False from hl).elim
  | _ => exact (leA1_rel (h.to1' (fun xs h => by cases h)) (show leA1 _ y from hl)).to
end
def renTs (ob ob' : List Ob) (ρ : List (Option Nat)) : List AV → List AV → Option Eqs
  | [], [] => some []
  | x :: r, x' :: r' => both (ren1 ob ob' ρ x x') (renTs ob ob' ρ r r')
  | _, _ => none
def renR (ob ob' : List Ob) (ρ : List (Option Nat)) (x x' : AV) : Option Eqs := match x with
  | .tup xs => (match x' with
    | .tup ys => renTs ob ob' ρ xs ys
    | _ => none)
  | x => ren1 ob ob' ρ x x'
section
variable {w w0 : World} {g g0 : Gh} {ob ob' o0 : List Ob} {ρ : List (Option Nat)}
theorem ren1_notup {x x' : AV} {l : Eqs} (he : ren1 ob ob' ρ x x' = some l) : ∀ xs, x' ≠ .tup xs := by
  rintro xs rfl
  cases he
theorem renTs_rel (hF : Fits ob ob' ρ) (ho : onceR ρ = true) : ∀ (xs ys : List AV) (vs : List Value) (l : Eqs), renTs ob ob' ρ xs ys = some l → AllEq l → vs.length = xs.length → (∀ (j : Nat) y u, vs[j]? = some y → xs[j]? = some u → ARel1 w g ob y u) →
    vs.length = ys.length ∧ ∀ (j : Nat) y u, vs[j]? = some y → ys[j]? = some u → ARel1 w (g.ren ρ) ob' y u
  | [], [], vs, _, _, _, hn, _ => ⟨hn, fun j y u _ h => by simp at h⟩
  | [], _ :: _, _, _, h, _, _, _ => by cases h
  | _ :: _, [], _, _, h, _, _, _ => by cases h
  | x :: r, y :: r', vs, l, h, hl, hn, hr => by
    cases vs with
    | nil => simp at hn
    | cons v vs =>
      obtain ⟨⟨l1, h1, hl1⟩, l2, h2, hl2⟩ := both_some h hl
      obtain ⟨h3, h4⟩ := renTs_rel hF ho r r' vs l2 h2 hl2 (by simpa using hn) (fun j a b ha hb => hr (j + 1) a b (by simpa using ha) (by simpa using hb))
      refine ⟨by simp [h3], fun j a b ha hb => ?_⟩
      cases j with
      | zero =>
        obtain rfl : v = a := by simpa using ha
        obtain rfl : y = b := by simpa using hb
        exact (ren1_rel hF ho (hr 0 v x rfl rfl).to h1 hl1).to1' (ren1_notup h1)
      | succ j => exact h4 j a b (by simpa using ha) (by simpa using hb)
theorem renR_rel (hF : Fits ob ob' ρ) (ho : onceR ρ = true) {v : Value} {x x' : AV} {l : Eqs} (h : ARel w g ob v x) (he : renR ob ob' ρ x x' = some l) (hl : AllEq l) : ARel w (g.ren ρ) ob' v x' := by
  cases x with
  | tup xs =>
    cases x' with
    | tup ys =>
      obtain ⟨vs, rfl, h1, h2⟩ := h
      obtain ⟨h3, h4⟩ := renTs_rel hF ho xs ys vs.toList l he hl (by simpa using h1) (fun j a b ha hb => h2 j a b (by simpa using ha) hb)
      exact ⟨vs, rfl, by simpa using h3, fun j a b ha hb => h4 j a b (by simpa using ha) hb⟩
    | _ => cases he
  | _ => exact ren1_rel hF ho h he hl
theorem step_ren (hF : Fits ob ob' ρ) (ho : onceR ρ = true) (hh : headR o0 ob ob' ρ = true) (hn : o0.length ≤ ρ.length) (h0 : Step w0 g0 o0 w g ob) : Step w0 g0 o0 w (g.ren ρ) ob' := by
  have head : ∀ j, j < o0.length → ρ[j]? = some (some j) := fun j hj => by
    have := List.all_eq_true.1 hh j (List.mem_range.2 hj)
    simp only [Bool.and_eq_true, beq_iff_eq] at this
    exact this.1
  refine ⟨h0.os, h0.tape, h0.output, h0.size, h0.keep, fun b id hG => ?_, h0.imm, ⟨h0.ext.A, fun id hid => ?_, fun id hb => ?_, fun id hb => ?_, fun id et sz fz e xs hr => ?_, fun b id hG hs => ?_⟩, ?_⟩
  · obtain ⟨i, _, h3⟩ := ren_Gof hG
    exact h0.own b i h3
  · rw [ren_loc (head id hid)]; exact h0.ext.loc id hid
  · exact hF.isB (head id (isBox_lt hb)) (h0.ext.isb id hb)
  · exact hF.isI (head id (isIt_lt hb)) (h0.ext.isi id hb)
  · have hid := lt_of_some hr
    obtain ⟨fz1, e1, xs1, h3, h4, h5⟩ := h0.ext.row id et sz fz e xs hr
    obtain ⟨fz2, e2, h6, _⟩ := hF.row (head id hid) h3
    have he : e1 = e2 ∨ e < e2 := by
      have := List.all_eq_true.1 hh id (List.mem_range.2 hid)
      simp only [Bool.and_eq_true, hr, h3, h6, beq_iff_eq, Bool.or_eq_true, decide_eq_true_eq] at this
      exact this.2
    rcases he with he | he
    rotate_left
    · exact ⟨fz2, e2, xs1, h6, by omega, fun hee => by omega⟩
    subst he
    exact ⟨fz2, e1, xs1, h6, h4, fun hee => ⟨(h5 hee).1, fun b hb => ⟨ren_G ho (head id hid) ((h5 hee).2 b hb).1, ((h5 hee).2 b hb).2⟩⟩⟩
  · obtain ⟨et, sz, fz, fz', e, xs, xs', h3, h4⟩ := hs
    have hid := lt_of_some h3
    obtain ⟨fz1, e1, xs1, h5, h6, h7⟩ := h0.ext.row id et sz fz e xs h3
    obtain ⟨fz2, e2, h8, _⟩ := hF.row (head id hid) h5
    rw [h8] at h4
    obtain ⟨rfl, rfl, rfl⟩ : fz2 = fz' ∧ e2 = e ∧ xs1 = xs' := by simpa using h4
    have he : e1 = e2 := by
      have := List.all_eq_true.1 hh id (List.mem_range.2 hid)
      simp only [Bool.and_eq_true, h3, h5, h8, beq_iff_eq, Bool.or_eq_true, decide_eq_true_eq] at this
      omega
    subst he
    obtain ⟨h9, h10⟩ := h0.ext.sub b id hG ⟨_, _, _, _, _, _, _, h3, h5⟩
    have h11 := ren_sub (g := g) ho (head id hid) ((h7 rfl).2 b hG).1
    exact ⟨h11.trans h9, h10⟩
  · rw [← hF.1]; exact hn
end
def FinOk (o0 : List Ob) (res : AV) (ob' : List Ob) (_ : Ex) (s : St) : Prop := match s.tm with
  | [(_, r)] => ∃ ρ r' l, onceR ρ = true ∧ headR o0 s.ob ob' ρ = true ∧ o0.length ≤ ρ.length ∧ both (renR s.ob ob' ρ r r') (renOs s.ob ob' ρ ρ ob') = some l ∧ AllEq l ∧ leA r' res
  | _ => False
def purR : AV → Bool
  | .tup xs => xs.all AV.pur
  | x => x.pur
theorem ren0_pure {ob : List Ob} {ρ : List (Option Nat)} {x : AV} (h : x.pur0 = true) : ∃ l, ren0 ob [] ρ x x = some l ∧ AllEq l := by
  cases x with
  | val v => cases v <;> exact ⟨_, rfl, rfl, trivial⟩
  | slc _ _ => exact ⟨_, rfl, rfl, trivial⟩
  | ref _ => exact ⟨_, rfl, rfl, trivial⟩
  | opt _ => exact ⟨_, rfl, rfl, trivial⟩
  | _ => cases h
theorem ren1_pure {ob : List Ob} {ρ : List (Option Nat)} {x : AV} (h : x.pur = true) : ∃ l, ren1 ob [] ρ x x = some l ∧ AllEq l := by
  cases x with
  | agg cs =>
    have key : ∀ cs : List AV, cs.all AV.pur0 = true → ∃ l, renL ob [] ρ cs cs = some l ∧ AllEq l := by
      intro cs
      induction cs with
      | nil => intro _; exact ⟨[], rfl, trivial⟩
      | cons x r ih =>
        intro h
        simp only [List.all_cons, Bool.and_eq_true] at h
        obtain ⟨l1, h1, h2⟩ := ren0_pure (ob := ob) (ρ := ρ) h.1
        obtain ⟨l2, h3, h4⟩ := ih h.2
        exact ⟨l1 ++ l2, by simp only [renL, h1, h3, both], allEq_append.2 ⟨h2, h4⟩⟩
    exact key cs h
  | val v => exact ren0_pure (ob := ob) (ρ := ρ) (x := .val v) h
  | slc a b => exact ren0_pure (ob := ob) (ρ := ρ) (x := .slc a b) h
  | ref a => exact ren0_pure (ob := ob) (ρ := ρ) (x := .ref a) h
  | opt a => exact ren0_pure (ob := ob) (ρ := ρ) (x := .opt a) h
  | _ => cases h
theorem FinOk.pure {res r : AV} {k : Nat} {ob : List Ob} {e : Ex} (hp : purR r = true) (hl : leA r res) : FinOk [] res [] e ⟨[(k, r)], ob⟩ := by
  have hr : ∃ l, renR ob [] [] r r = some l ∧ AllEq l := by
    cases r with
    | tup xs =>
      have key : ∀ xs : List AV, xs.all AV.pur = true → ∃ l, renTs ob [] [] xs xs = some l ∧ AllEq l := by
        intro xs
        induction xs with
        | nil => intro _; exact ⟨[], rfl, trivial⟩
        | cons x r ih =>
          intro h
          simp only [List.all_cons, Bool.and_eq_true] at h
          obtain ⟨l1, h1, h2⟩ := ren1_pure (ob := ob) (ρ := []) h.1
          obtain ⟨l2, h3, h4⟩ := ih h.2
          exact ⟨l1 ++ l2, by simp only [renTs, h1, h3, both], allEq_append.2 ⟨h2, h4⟩⟩
      exact key xs hp
    | val a => exact ren1_pure (ob := ob) (ρ := []) (x := .val a) hp
    | slc a b => exact ren1_pure (ob := ob) (ρ := []) (x := .slc a b) hp
    | agg a => exact ren1_pure (ob := ob) (ρ := []) (x := .agg a) hp
    | ref a => exact ren1_pure (ob := ob) (ρ := []) (x := .ref a) hp
    | opt a => exact ren1_pure (ob := ob) (ρ := []) (x := .opt a) hp
    | _ => cases hp
  obtain ⟨l, h1, h2⟩ := hr
  exact ⟨[], r, l, rfl, rfl, Nat.le_refl _, by simp only [h1, renOs, both, List.append_nil], h2, hl⟩
theorem bcall_any {P : Program} {ty : Tys} (keep : Bool) (hT : TyOk P ty) (hm : P.follows .mixedOrders = true) {cs : Nat → List AV → List Ob → Option (AV × List Ob)} {ord : Nat → OT}
    {f : Nat} {fn : Func} {c : Code} {args : List AV} {ob : List Ob} {res : AV} {ob' : List Ob} (hf : P.funcs[f]? = some fn) (hb : fn.body = some c) (he : ∀ vs w, (callFunc f vs).run P w = .ok (.enter f vs) w)
    (hn : args.length ≤ fn.ntmps) (hd : dstOk fn.ntmps c = true) (ho : ordOk .any ty ord c = true)
    (h : ∀ w0 g0, (aexec std ty cs ord c (endK std ty keep fn.results.toList) ⟨ent 0 args, ob⟩).ok P w0 g0 ob fn.ntmps (FinOk ob res ob')) : BCall P f args ob res ob' := by
  refine ⟨he, fun w g vs M hL => calls_of_wp hf hb ?_⟩
  have hlen : vs.length = args.length := hL.1
  refine aexec_sound (w0 := w) (g0 := g) (o0 := ob) (N := fn.ntmps) (Q := FinOk ob res ob') hT hm c _ _ ⟨ent 0 args, ob⟩ _ w hd ho (fun c a d v w h => h) (fun e s a w' hs hq => ?_) ⟨rfl, ?_, g, M, fun t => ?_, Step.refl⟩ (h w g)
  · have fin : ∀ {T : Tree}, T = (match resultA std ty keep fn.results.toList s with | some (r, ob) => .leaf .ret ⟨[(0, r)], ob⟩ | none => .stuck 71) → T.ok P w g ob fn.ntmps (FinOk ob res ob') →
        a.defers = [] ∧ ∃ v, (results fn a.tmps).run P w' = .ok v w' ∧ ∃ v' g', Ending.returned v = .returned v' ∧ Mem w' g' ob' ∧ ARel w' g' ob' v' res ∧ Step w g ob w' g' ob' := fun hT' hq => by
      cases hr : resultA std ty keep fn.results.toList s with
      | none => rw [hr] at hT'; subst hT'; exact (show False from hq).elim
      | some q =>
        obtain ⟨r, ob1⟩ := q
        rw [hr] at hT'
        subst hT'
        obtain ⟨ρ, r', l, h1, h2, h3, h4, h5, h6⟩ := (show FinOk ob res ob' .ret ⟨[(0, r)], ob1⟩ from hq)
        obtain ⟨⟨l1, e1, a1⟩, l2, e2, a2⟩ := both_some h4 h5
        have hF : Fits ob1 ob' ρ := renOs_get _ _ _ e2 a2
        obtain ⟨v, g', k1, k2, k3, k4⟩ := result_sound hT hs hr
        exact ⟨hs.defers, v, k1, v, g'.ren ρ, rfl, k2.ren hF h1, leA_rel (renR_rel hF h1 k3 e1 a1) h6, step_ren hF h1 h2 h3 k4⟩
    cases e with
    | normal => exact fin rfl hq
    | ret => exact fin rfl hq
    | exit i => exact (show False from hq).elim
  · simp; omega
  · show ARel w g ob _ (lk t (ent 0 args))
    rw [lk_ent]
    simp only [Nat.zero_le, if_true, Nat.sub_zero]
    by_cases ht : t < args.length
    · rw [List.getD_eq_getElem?_getD, List.getElem?_eq_getElem ht, Option.getD_some]
      have e : (vs.toArray ++ Array.replicate (fn.ntmps - vs.toArray.size) undef).getD t undef = vs[t]'(by omega) := by
        rw [Array.getD_eq_getD_getElem?, Array.getElem?_append_left (by simp; omega)]
        simp [show t < vs.length by omega]
      rw [e]
      exact (hL.2 t _ _ (List.getElem?_eq_getElem (by omega)) (List.getElem?_eq_getElem ht)).to
    · rw [List.getD_eq_getElem?_getD, List.getElem?_eq_none (by omega)]
      trivial
theorem bcall_of {P : Program} {ty : Tys} (hT : TyOk P ty) (hm : P.follows .mixedOrders = true) {cs : Nat → List AV → List Ob → Option (AV × List Ob)} {ord : Nat → OT}
    {f : Nat} {fn : Func} {c : Code} {args : List AV} {ob : List Ob} {res : AV} {ob' : List Ob} (hf : P.funcs[f]? = some fn) (hb : fn.body = some c) (he : ∀ vs w, (callFunc f vs).run P w = .ok (.enter f vs) w)
    (hn : args.length ≤ fn.ntmps) (hd : dstOk fn.ntmps c = true) (ho : ordOk .any ty ord c = true)
    (h : ∀ w0 g0, (aexec std ty cs ord c (endK std ty false fn.results.toList) ⟨ent 0 args, ob⟩).ok P w0 g0 ob fn.ntmps (FinOk ob res ob')) : BCall P f args ob res ob' :=
  bcall_any false hT hm hf hb he hn hd ho h
theorem bcall_new {P : Program} {ty : Tys} (hT : TyOk P ty) (hm : P.follows .mixedOrders = true) {cs : Nat → List AV → List Ob → Option (AV × List Ob)} {ord : Nat → OT}
    {f : Nat} {fn : Func} {c : Code} {args : List AV} {ob : List Ob} {res : AV} {ob' : List Ob} (hf : P.funcs[f]? = some fn) (hb : fn.body = some c) (he : ∀ vs w, (callFunc f vs).run P w = .ok (.enter f vs) w)
    (hn : args.length ≤ fn.ntmps) (hd : dstOk fn.ntmps c = true) (ho : ordOk .any ty ord c = true)
    (h : ∀ w0 g0, (aexec std ty cs ord c (endK std ty true fn.results.toList) ⟨ent 0 args, ob⟩).ok P w0 g0 ob fn.ntmps (FinOk ob res ob')) : BCall P f args ob res ob' :=
  bcall_any true hT hm hf hb he hn hd ho h
end Go.Proofs.Ytblafdmmebiagaa
namespace Go.Proofs.Ytblafdmmebiagaa
open Go.RowKit Go.Lib
def tiB (P : Program) (x : TI) : Bool := x.zero.length == x.size && (x.agg || x.size == 1) && decide (x.bytes ≤ 140000) && x.flds.all (fun f => (P.info? f.2).isSome) && x.zero.all (·.oneCell') && x.ok
theorem TiOk.of {P : Program} {t : Nat} {x : TI} (h1 : (P.info? t).map (fun i => (i.size, i.bytes, i.zero.map (·.cells.toList))) = some (x.size, x.bytes, some x.zero))
    (h2 : (P.underlying t).map shapeOf = some (x.agg, x.elem, x.flds, x.kind, x.sl, x.kd)) (hb : tiB P x = true) : TiOk P t x := by
  simp only [tiB, Bool.and_eq_true, Bool.or_eq_true, beq_iff_eq, decide_eq_true_eq] at hb
  obtain ⟨⟨⟨⟨⟨b1, b2⟩, b4⟩, b5⟩, b6⟩, b7⟩ := hb
  exact ⟨h1, h2, b1, fun h => b2.resolve_left (by rw [h]; simp), b4, b5, b6, b7⟩
theorem TyOk.nil {P : Program} : TyOkL P [] := fun _ _ h => by cases h
theorem TyOk.cons {P : Program} {t : Nat} {x : TI} {r : List (Nat × TI)} (h : TiOk P t x) (hr : TyOkL P r) : TyOkL P ((t, x) :: r) := fun u y hu => by
  rcases List.mem_cons.1 hu with h1 | h1
  · cases h1; exact h
  · exact hr u y h1
end Go.Proofs.Ytblafdmmebiagaa
namespace Go.Proofs.Ytblafdmmebiagaa
def tysL : List (Nat × TI) := [(1, ⟨1, false, 0, [], [.nilFunc], none, 8, false, 7, true⟩),
  (2, ⟨1, false, 0, [], [.int .i64 0], some .i64, 8, false, 3, true⟩),
  (3, ⟨1, false, 0, [], [.int .i64 0], some .i64, 8, false, 3, true⟩),
  (4, ⟨1, false, 0, [], [.bool false], none, 1, false, 5, true⟩),
  (5, ⟨1, false, 0, [], [.int .u8 0], some .u8, 1, false, 3, true⟩),
  (6, ⟨1, false, 0, [], [.int .u8 0], some .u8, 1, false, 3, true⟩),
  (7, ⟨4, true, 0, [(0, 2), (1, 3), (2, 4), (3, 6)], [.int .i64 0, .int .i64 0, .bool false, .int .u8 0], none, 24, false, 1, true⟩),
  (8, ⟨4, true, 0, [(0, 2), (1, 3), (2, 4), (3, 6)], [.int .i64 0, .int .i64 0, .bool false, .int .u8 0], none, 24, false, 1, true⟩),
  (9, ⟨1, false, 0, [], [.string ⟨#[]⟩], none, 16, false, 6, true⟩),
  (10, ⟨1, false, 0, [], [.string ⟨#[]⟩], none, 16, false, 6, true⟩),
  (11, ⟨1, false, 0, [], [.string ⟨#[]⟩], none, 16, false, 6, true⟩),
  (12, ⟨1, false, 0, [], [.int .u64 0], some .u64, 8, false, 3, true⟩),
  (13, ⟨2, true, 0, [(0, 9), (1, 12)], [.string ⟨#[]⟩, .int .u64 0], none, 24, false, 1, true⟩),
  (14, ⟨2, true, 0, [(0, 9), (1, 12)], [.string ⟨#[]⟩, .int .u64 0], none, 24, false, 1, true⟩),
  (15, ⟨1, false, 0, [], [.pointer none], none, 8, false, 4, true⟩),
  (16, ⟨1, false, 0, [], [.pointer none], none, 8, false, 4, true⟩),
  (17, ⟨1, false, 0, [], [.pointer none], none, 8, false, 4, true⟩),
  (18, ⟨1, true, 0, [(0, 17)], [.pointer none], none, 8, false, 1, true⟩),
  (19, ⟨1, true, 0, [(0, 17)], [.pointer none], none, 8, false, 1, true⟩),
  (21, ⟨1, false, 0, [], [.int .i32 0], some .i32, 4, false, 3, true⟩),
  (22, ⟨1, false, 5, [], [.slice none 0 0], none, 24, true, 2, true⟩),
  (23, ⟨1, false, 0, [], [.nilFunc], none, 8, false, 7, true⟩),
  (24, ⟨1, false, 21, [], [.slice none 0 0], none, 24, true, 2, true⟩),
  (25, ⟨1, false, 3, [], [.slice none 0 0], none, 24, true, 2, true⟩),
  (26, ⟨4, true, 0, [(0, 3), (1, 3), (2, 24), (3, 25)], [.int .i64 0, .int .i64 0, .slice none 0 0, .slice none 0 0], none, 64, false, 1, true⟩),
  (27, ⟨4, true, 0, [(0, 3), (1, 3), (2, 24), (3, 25)], [.int .i64 0, .int .i64 0, .slice none 0 0, .slice none 0 0], none, 64, false, 1, true⟩),
  (28, ⟨1, false, 0, [], [.pointer none], none, 8, false, 4, true⟩),
  (29, ⟨1, false, 47, [], [.slice none 0 0], none, 24, true, 2, true⟩),
  (30, ⟨7, true, 0, [(0, 27), (4, 28), (5, 3), (6, 29)], [.int .i64 0, .int .i64 0, .slice none 0 0, .slice none 0 0, .pointer none, .int .i64 0, .slice none 0 0], none, 104, false, 1, true⟩),
  (31, ⟨7, true, 0, [(0, 27), (4, 28), (5, 3), (6, 29)], [.int .i64 0, .int .i64 0, .slice none 0 0, .slice none 0 0, .pointer none, .int .i64 0, .slice none 0 0], none, 104, false, 1, true⟩),
  (32, ⟨1, false, 0, [], [.nilFunc], none, 8, false, 7, true⟩),
  (33, ⟨1, false, 0, [], [.nilFunc], none, 8, false, 7, true⟩),
  (34, ⟨1, false, 0, [], [.nilFunc], none, 8, false, 7, true⟩),
  (35, ⟨1, false, 0, [], [.nilFunc], none, 8, false, 7, true⟩),
  (36, ⟨1, false, 0, [], [.nilFunc], none, 8, false, 7, true⟩),
  (37, ⟨1, false, 40, [], [.slice none 0 0], none, 24, true, 2, true⟩),
  (38, ⟨1, false, 0, [], [.pointer none], none, 8, false, 4, true⟩),
  (39, ⟨5, true, 0, [(0, 28), (1, 3), (2, 3), (3, 3), (4, 38)], [.pointer none, .int .i64 0, .int .i64 0, .int .i64 0, .pointer none], none, 40, false, 1, true⟩),
  (40, ⟨5, true, 0, [(0, 28), (1, 3), (2, 3), (3, 3), (4, 38)], [.pointer none, .int .i64 0, .int .i64 0, .int .i64 0, .pointer none], none, 40, false, 1, true⟩),
  (41, ⟨1, false, 0, [], [.nilFunc], none, 8, false, 7, true⟩),
  (42, ⟨1, false, 0, [], [.nilFunc], none, 8, false, 7, true⟩),
  (43, ⟨2, true, 0, [(0, 3), (1, 3)], [.int .i64 0, .int .i64 0], none, 16, false, 1, true⟩),
  (44, ⟨2, true, 0, [(0, 3), (1, 3)], [.int .i64 0, .int .i64 0], none, 16, false, 1, true⟩),
  (45, ⟨1, false, 0, [], [.nilFunc], none, 8, false, 7, true⟩),
  (46, ⟨3, true, 0, [(0, 44), (2, 3)], [.int .i64 0, .int .i64 0, .int .i64 0], none, 24, false, 1, true⟩),
  (47, ⟨3, true, 0, [(0, 44), (2, 3)], [.int .i64 0, .int .i64 0, .int .i64 0], none, 24, false, 1, true⟩),
  (48, ⟨1, false, 0, [], [.nilFunc], none, 8, false, 7, true⟩),
  (49, ⟨1, false, 0, [], [.nilFunc], none, 8, false, 7, true⟩),
  (51, ⟨1, false, 0, [], [.nilFunc], none, 8, false, 7, true⟩),
  (52, ⟨1, false, 0, [], [.nilFunc], none, 8, false, 7, true⟩),
  (53, ⟨1, false, 56, [], [.slice none 0 0], none, 24, true, 2, true⟩),
  (54, ⟨1, false, 0, [], [.nilFunc], none, 8, false, 7, true⟩),
  (55, ⟨3, true, 0, [(0, 3), (1, 3), (2, 22)], [.int .i64 0, .int .i64 0, .slice none 0 0], none, 40, false, 1, true⟩),
  (56, ⟨3, true, 0, [(0, 3), (1, 3), (2, 22)], [.int .i64 0, .int .i64 0, .slice none 0 0], none, 40, false, 1, true⟩),
  (57, ⟨1, false, 0, [], [.nilFunc], none, 8, false, 7, true⟩),
  (58, ⟨1, false, 0, [], [.nilFunc], none, 8, false, 7, true⟩),
  (59, ⟨1, false, 0, [], [.nilFunc], none, 8, false, 7, true⟩),
  (60, ⟨1, false, 0, [], [.nilFunc], none, 8, false, 7, true⟩),
  (61, ⟨1, false, 0, [], [.pointer none], none, 8, false, 4, true⟩),
  (62, ⟨1, false, 0, [], [.nilFunc], none, 8, false, 7, true⟩),
  (63, ⟨1, false, 0, [], [.nilFunc], none, 8, false, 7, true⟩),
  (64, ⟨1, false, 0, [], [.pointer none], none, 8, false, 4, true⟩),
  (65, ⟨2, true, 0, [(0, 24), (1, 25)], [.slice none 0 0, .slice none 0 0], none, 48, false, 1, true⟩),
  (66, ⟨2, true, 0, [(0, 24), (1, 25)], [.slice none 0 0, .slice none 0 0], none, 48, false, 1, true⟩),
  (67, ⟨1, false, 66, [], [.slice none 0 0], none, 24, true, 2, true⟩),
  (68, ⟨3, true, 0, [(0, 22), (1, 61), (2, 67)], [.slice none 0 0, .pointer none, .slice none 0 0], none, 56, false, 1, true⟩),
  (69, ⟨3, true, 0, [(0, 22), (1, 61), (2, 67)], [.slice none 0 0, .pointer none, .slice none 0 0], none, 56, false, 1, true⟩),
  (70, ⟨1, false, 0, [], [.nilFunc], none, 8, false, 7, true⟩),
  (71, ⟨1, false, 0, [], [.nilFunc], none, 8, false, 7, true⟩),
  (72, ⟨1, false, 0, [], [.nilFunc], none, 8, false, 7, true⟩),
  (73, ⟨6, true, 0, [(0, 3), (1, 3), (2, 3), (3, 4), (4, 22), (5, 25)], [.int .i64 0, .int .i64 0, .int .i64 0, .bool false, .slice none 0 0, .slice none 0 0], none, 80, false, 1, true⟩),
  (74, ⟨6, true, 0, [(0, 3), (1, 3), (2, 3), (3, 4), (4, 22), (5, 25)], [.int .i64 0, .int .i64 0, .int .i64 0, .bool false, .slice none 0 0, .slice none 0 0], none, 80, false, 1, true⟩),
  (75, ⟨1, false, 0, [], [.nilFunc], none, 8, false, 7, true⟩),
  (77, ⟨1, false, 0, [], [.nilFunc], none, 8, false, 7, true⟩),
  (78, ⟨1, false, 0, [], [.int .i64 0], some .i64, 8, false, 3, true⟩),
  (80, ⟨1, false, 0, [], [.nilFunc], none, 8, false, 7, true⟩),
  (81, ⟨1, false, 0, [], [.nilFunc], none, 8, false, 7, true⟩),
  (82, ⟨1, false, 0, [], [.nilFunc], none, 8, false, 7, true⟩),
  (83, ⟨1, false, 0, [], [.nilFunc], none, 8, false, 7, true⟩),
  (84, ⟨1, false, 0, [], [.nilFunc], none, 8, false, 7, true⟩),
  (85, ⟨1, false, 0, [], [.nilFunc], none, 8, false, 7, true⟩),
  (86, ⟨1, false, 0, [], [.nilFunc], none, 8, false, 7, true⟩),
  (88, ⟨1, false, 0, [], [.nilFunc], none, 8, false, 7, true⟩),
  (89, ⟨1, false, 0, [], [.nilFunc], none, 8, false, 7, true⟩),
  (90, ⟨3, true, 0, [(0, 3), (1, 3), (2, 3)], [.int .i64 0, .int .i64 0, .int .i64 0], none, 24, false, 1, true⟩),
  (91, ⟨3, true, 0, [(0, 3), (1, 3), (2, 3)], [.int .i64 0, .int .i64 0, .int .i64 0], none, 24, false, 1, true⟩),
  (92, ⟨1, false, 123, [], [.slice none 0 0], none, 24, true, 2, true⟩),
  (93, ⟨6, true, 0, [(0, 91), (3, 92), (4, 4), (5, 4)], [.int .i64 0, .int .i64 0, .int .i64 0, .slice none 0 0, .bool false, .bool false], none, 56, false, 1, true⟩),
  (94, ⟨6, true, 0, [(0, 91), (3, 92), (4, 4), (5, 4)], [.int .i64 0, .int .i64 0, .int .i64 0, .slice none 0 0, .bool false, .bool false], none, 56, false, 1, true⟩),
  (95, ⟨1, false, 0, [], [.nilFunc], none, 8, false, 7, true⟩),
  (96, ⟨1, false, 0, [], [.nilFunc], none, 8, false, 7, true⟩),
  (97, ⟨1, false, 100, [], [.slice none 0 0], none, 24, true, 2, true⟩),
  (98, ⟨1, false, 0, [], [.nilFunc], none, 8, false, 7, true⟩),
  (99, ⟨3, true, 0, [(0, 21), (1, 3), (2, 3)], [.int .i32 0, .int .i64 0, .int .i64 0], none, 24, false, 1, true⟩),
  (100, ⟨3, true, 0, [(0, 21), (1, 3), (2, 3)], [.int .i32 0, .int .i64 0, .int .i64 0], none, 24, false, 1, true⟩),
  (101, ⟨1, false, 74, [], [.slice none 0 0], none, 24, true, 2, true⟩),
  (102, ⟨1, true, 0, [(0, 101)], [.slice none 0 0], none, 24, false, 1, true⟩),
  (103, ⟨1, true, 0, [(0, 101)], [.slice none 0 0], none, 24, false, 1, true⟩),
  (104, ⟨1, false, 0, [], [.pointer none], none, 8, false, 4, true⟩),
  (105, ⟨1, false, 0, [], [.nilFunc], none, 8, false, 7, true⟩),
  (106, ⟨1, false, 109, [], [.slice none 0 0], none, 24, true, 2, true⟩),
  (107, ⟨1, false, 0, [], [.nilFunc], none, 8, false, 7, true⟩),
  (108, ⟨4, true, 0, [(0, 3), (1, 3), (2, 3), (3, 4)], [.int .i64 0, .int .i64 0, .int .i64 0, .bool false], none, 32, false, 1, true⟩),
  (109, ⟨4, true, 0, [(0, 3), (1, 3), (2, 3), (3, 4)], [.int .i64 0, .int .i64 0, .int .i64 0, .bool false], none, 32, false, 1, true⟩),
  (110, ⟨1, false, 0, [], [.nilFunc], none, 8, false, 7, true⟩),
  (112, ⟨1, false, 0, [], [.nilFunc], none, 8, false, 7, true⟩),
  (114, ⟨1, false, 0, [], [.nilFunc], none, 8, false, 7, true⟩),
  (115, ⟨1, false, 0, [], [.nilFunc], none, 8, false, 7, true⟩),
  (116, ⟨1, false, 0, [], [.pointer none], none, 8, false, 4, true⟩),
  (117, ⟨1, false, 91, [], [.slice none 0 0], none, 24, true, 2, true⟩),
  (118, ⟨1, false, 0, [], [.nilFunc], none, 8, false, 7, true⟩),
  (119, ⟨2, true, 0, [(0, 117), (1, 3)], [.slice none 0 0, .int .i64 0], none, 32, false, 1, true⟩),
  (120, ⟨2, true, 0, [(0, 117), (1, 3)], [.slice none 0 0, .int .i64 0], none, 32, false, 1, true⟩),
  (121, ⟨1, false, 0, [], [.nilFunc], none, 8, false, 7, true⟩),
  (122, ⟨9, true, 0, [(0, 91), (3, 91), (6, 91)], [.int .i64 0, .int .i64 0, .int .i64 0, .int .i64 0, .int .i64 0, .int .i64 0, .int .i64 0, .int .i64 0, .int .i64 0], none, 72, false, 1, true⟩),
  (123, ⟨9, true, 0, [(0, 91), (3, 91), (6, 91)], [.int .i64 0, .int .i64 0, .int .i64 0, .int .i64 0, .int .i64 0, .int .i64 0, .int .i64 0, .int .i64 0, .int .i64 0], none, 72, false, 1, true⟩),
  (125, ⟨1, false, 0, [], [.nilFunc], none, 8, false, 7, true⟩),
  (126, ⟨1, false, 0, [], [.nilFunc], none, 8, false, 7, true⟩),
  (127, ⟨1, false, 0, [], [.pointer none], none, 8, false, 4, true⟩),
  (128, ⟨2, true, 0, [(0, 127), (1, 22)], [.pointer none, .slice none 0 0], none, 32, false, 1, true⟩),
  (129, ⟨2, true, 0, [(0, 127), (1, 22)], [.pointer none, .slice none 0 0], none, 32, false, 1, true⟩),
  (133, ⟨1, false, 0, [], [.nilFunc], none, 8, false, 7, true⟩),
  (134, ⟨1, false, 0, [], [.nilFunc], none, 8, false, 7, true⟩),
  (135, ⟨3, true, 0, [(0, 9), (1, 3), (2, 3)], [.string ⟨#[]⟩, .int .i64 0, .int .i64 0], none, 32, false, 1, true⟩),
  (136, ⟨3, true, 0, [(0, 9), (1, 3), (2, 3)], [.string ⟨#[]⟩, .int .i64 0, .int .i64 0], none, 32, false, 1, true⟩),
  (137, ⟨15, true, 136, [], [.string ⟨#[]⟩, .int .i64 0, .int .i64 0, .string ⟨#[]⟩, .int .i64 0, .int .i64 0, .string ⟨#[]⟩, .int .i64 0, .int .i64 0, .string ⟨#[]⟩, .int .i64 0, .int .i64 0, .string ⟨#[]⟩, .int .i64 0, .int .i64 0], none, 160, false, 105, true⟩),
  (138, ⟨1, false, 0, [], [.nilFunc], none, 8, false, 7, true⟩),
  (139, ⟨1, false, 0, [], [.nilFunc], none, 8, false, 7, true⟩),
  (140, ⟨1, false, 0, [], [.nilFunc], none, 8, false, 7, true⟩),
  (142, ⟨1, false, 0, [], [.nilFunc], none, 8, false, 7, true⟩),
  (143, ⟨1, false, 0, [], [.nilFunc], none, 8, false, 7, true⟩),
  (144, ⟨1, false, 0, [], [.nilFunc], none, 8, false, 7, true⟩),
  (145, ⟨1, false, 0, [], [.nilFunc], none, 8, false, 7, true⟩),
  (146, ⟨1, false, 0, [], [.nilFunc], none, 8, false, 7, true⟩),
  (147, ⟨1, false, 0, [], [.pointer none], none, 8, false, 4, true⟩),
  (149, ⟨1, false, 0, [], [.nilFunc], none, 8, false, 7, true⟩),
  (150, ⟨1, false, 0, [], [.nilFunc], none, 8, false, 7, true⟩),
  (151, ⟨1, false, 0, [], [.nilFunc], none, 8, false, 7, true⟩),
  (152, ⟨1, false, 0, [], [.int .u64 0], some .u64, 8, false, 3, true⟩),
  (153, ⟨1, false, 0, [], [.nilFunc], none, 8, false, 7, true⟩),
  (154, ⟨1, false, 0, [], [.nilFunc], none, 8, false, 7, true⟩),
  (155, ⟨1, false, 0, [], [.nilFunc], none, 8, false, 7, true⟩),
  (156, ⟨1, false, 0, [], [.nilFunc], none, 8, false, 7, true⟩),
  (157, ⟨1, false, 0, [], [.nilFunc], none, 8, false, 7, true⟩),
  (158, ⟨1, false, 0, [], [.nilFunc], none, 8, false, 7, true⟩),
  (159, ⟨1, false, 0, [], [.nilFunc], none, 8, false, 7, true⟩),
  (160, ⟨1, false, 0, [], [.nilFunc], none, 8, false, 7, true⟩),
  (162, ⟨1, false, 0, [], [.nilFunc], none, 8, false, 7, true⟩),
  (163, ⟨1, false, 0, [], [.nilFunc], none, 8, false, 7, true⟩),
  (164, ⟨1, false, 0, [], [.nilFunc], none, 8, false, 7, true⟩),
  (165, ⟨1, false, 0, [], [.nilFunc], none, 8, false, 7, true⟩),
  (166, ⟨1, false, 0, [], [.nilFunc], none, 8, false, 7, true⟩),
  (167, ⟨1, false, 0, [], [.nilFunc], none, 8, false, 7, true⟩),
  (168, ⟨1, false, 0, [], [.nilFunc], none, 8, false, 7, true⟩),
  (169, ⟨1, false, 0, [], [.nilFunc], none, 8, false, 7, true⟩),
  (170, ⟨2, true, 0, [(0, 21), (1, 21)], [.int .i32 0, .int .i32 0], none, 8, false, 1, true⟩),
  (171, ⟨2, true, 0, [(0, 21), (1, 21)], [.int .i32 0, .int .i32 0], none, 8, false, 1, true⟩),
  (172, ⟨1, false, 171, [], [.slice none 0 0], none, 24, true, 2, true⟩),
  (173, ⟨4, true, 0, [(0, 17), (1, 17), (2, 17), (3, 9)], [.pointer none, .pointer none, .pointer none, .string ⟨#[]⟩], none, 40, false, 1, true⟩),
  (174, ⟨4, true, 0, [(0, 17), (1, 17), (2, 17), (3, 9)], [.pointer none, .pointer none, .pointer none, .string ⟨#[]⟩], none, 40, false, 1, true⟩),
  (175, ⟨0, true, 16, [], [], none, 0, false, 100, true⟩),
  (176, ⟨0, true, 0, [(0, 175)], [], none, 0, false, 1, true⟩),
  (177, ⟨0, true, 0, [(0, 175)], [], none, 0, false, 1, true⟩),
  (178, ⟨1, false, 0, [], [.int .u32 0], some .u32, 4, false, 3, true⟩),
  (179, ⟨1, false, 0, [], [.int .u8 0], some .u8, 1, false, 3, true⟩),
  (180, ⟨1, false, 0, [], [.int .u8 0], some .u8, 1, false, 3, true⟩),
  (181, ⟨1, false, 0, [], [.nilFunc], none, 8, false, 7, true⟩),
  (182, ⟨1, false, 0, [], [.int .i32 0], some .i32, 4, false, 3, true⟩),
  (183, ⟨1, false, 0, [], [.int .i32 0], some .i32, 4, false, 3, true⟩),
  (184, ⟨11, true, 0, [(0, 12), (1, 12), (2, 178), (3, 179), (4, 5), (5, 5), (6, 180), (7, 181), (8, 147), (9, 182), (10, 183)], [.int .u64 0, .int .u64 0, .int .u32 0, .int .u8 0, .int .u8 0, .int .u8 0, .int .u8 0, .nilFunc, .pointer none, .int .i32 0, .int .i32 0], none, 48, false, 1, true⟩),
  (185, ⟨11, true, 0, [(0, 12), (1, 12), (2, 178), (3, 179), (4, 5), (5, 5), (6, 180), (7, 181), (8, 147), (9, 182), (10, 183)], [.int .u64 0, .int .u64 0, .int .u32 0, .int .u8 0, .int .u8 0, .int .u8 0, .int .u8 0, .nilFunc, .pointer none, .int .i32 0, .int .i32 0], none, 48, false, 1, true⟩),
  (186, ⟨1, false, 0, [], [.nilFunc], none, 8, false, 7, true⟩)]
def tys : Tys := fun _ => tysL
theorem tyOk : TyOk Try.prog tys := by
  show TyOkL Try.prog tysL
  unfold tysL
  repeat refine TyOk.cons (TiOk.of (by kernel_rfl) (by kernel_rfl) (by kernel_rfl)) ?_
  exact TyOk.nil
end Go.Proofs.Ytblafdmmebiagaa
namespace Go.Proofs.Ytblafdmmebiagaa
open Go.RowKit Go.Lib
section
variable {P : Program} {ty : Tys} {w0 w : World} {g0 : Gh} {o0 : List Ob} {N : Nat} {s s' : St} {a : Act}
theorem seen_sim (ρ : List (Option Nat)) {l : Eqs} (h : seen o0 ρ s s' = some l) (hl : AllEq l) (hs : Sim w0 g0 o0 N s a w) : Sim w0 g0 o0 N s' a w := by
  unfold seen at h
  split at h
  · rename_i hk
    obtain ⟨ho, hh, hn⟩ := hk
    obtain ⟨⟨l1, h1, hl1⟩, l2, h2, hl2⟩ := both_some h hl
    have hF : Fits s.ob s'.ob ρ := renOs_get _ _ _ h2 hl2
    obtain ⟨g, M, hS, h0⟩ := hs.rel
    have head : ∀ j, j < o0.length → ρ[j]? = some (some j) := fun j hj => by
      have := List.all_eq_true.1 hh j (List.mem_range.2 hj)
      simp only [Bool.and_eq_true, beq_iff_eq] at this
      exact this.1
    refine ⟨hs.defers, hs.size, g.ren ρ, M.ren hF ho, fun t => ?_, ?_⟩
    · have : ∀ (l : List (Nat × AV)) (q : Eqs), renT s s' ρ l = some q → AllEq q → ARel w (g.ren ρ) s'.ob (a.tmps.getD t undef) (lk t l) := by
        intro l
        induction l with
        | nil => intro _ _ _; trivial
        | cons p r ih =>
          obtain ⟨u, x'⟩ := p
          intro q hq hql
          obtain ⟨⟨q1, e1, a1⟩, q2, e2, a2⟩ := both_some hq hql
          show ARel w (g.ren ρ) s'.ob _ (if t = u then x' else lk t r)
          by_cases e : t = u
          · subst e
            rw [if_pos rfl]
            exact ren1_rel hF ho (hS t) e1 a1
          · rw [if_neg e]; exact ih q2 e2 a2
      exact this _ _ h1 hl1
    · refine ⟨h0.os, h0.tape, h0.output, h0.size, h0.keep, fun b id hG => ?_, h0.imm, ⟨h0.ext.A, fun id hid => ?_, fun id hb => ?_, fun id hb => ?_, fun id et sz fz e xs hr => ?_, fun b id hG hs => ?_⟩, ?_⟩
      · obtain ⟨i, _, h3⟩ := ren_Gof hG
        exact h0.own b i h3
      · rw [ren_loc (head id hid)]; exact h0.ext.loc id hid
      · exact hF.isB (head id (isBox_lt hb)) (h0.ext.isb id hb)
      · exact hF.isI (head id (isIt_lt hb)) (h0.ext.isi id hb)
      · have hid := lt_of_some hr
        obtain ⟨fz1, e1, xs1, h3, h4, h5⟩ := h0.ext.row id et sz fz e xs hr
        obtain ⟨fz2, e2, h6, _⟩ := hF.row (head id hid) h3
        have he : e1 = e2 ∨ e < e2 := by
          have := List.all_eq_true.1 hh id (List.mem_range.2 hid)
          simp only [Bool.and_eq_true, hr, h3, h6, beq_iff_eq, Bool.or_eq_true, decide_eq_true_eq] at this
          exact this.2
        rcases he with he | he
        rotate_left
        · exact ⟨fz2, e2, xs1, h6, by omega, fun hee => by omega⟩
        subst he
        exact ⟨fz2, e1, xs1, h6, h4, fun hee => ⟨(h5 hee).1, fun b hb => ⟨ren_G ho (head id hid) ((h5 hee).2 b hb).1, ((h5 hee).2 b hb).2⟩⟩⟩
      · obtain ⟨et, sz, fz, fz', e, xs, xs', h3, h4⟩ := hs
        have hid := lt_of_some h3
        obtain ⟨fz1, e1, xs1, h5, h6, h7⟩ := h0.ext.row id et sz fz e xs h3
        obtain ⟨fz2, e2, h8, _⟩ := hF.row (head id hid) h5
        rw [h8] at h4
        obtain ⟨rfl, rfl, rfl⟩ : fz2 = fz' ∧ e2 = e ∧ xs1 = xs' := by simpa using h4
        have he : e1 = e2 := by
          have := List.all_eq_true.1 hh id (List.mem_range.2 hid)
          simp only [Bool.and_eq_true, h3, h5, h8, beq_iff_eq, Bool.or_eq_true, decide_eq_true_eq] at this
          omega
        subst he
        obtain ⟨h9, h10⟩ := h0.ext.sub b id hG ⟨_, _, _, _, _, _, _, h3, h5⟩
        have h11 := ren_sub (g := g) ho (head id hid) ((h7 rfl).2 b hG).1
        exact ⟨h11.trans h9, h10⟩
      · rw [← hF.1]; exact hn
  · cases h
end
end Go.Proofs.Ytblafdmmebiagaa
namespace Go.Proofs.Ytblafdmmebiagaa
open Go.RowKit Go.Lib
theorem least (p : Nat → Prop) (h : ∃ n, p n) : ∃ n, p n ∧ ∀ m, p m → n ≤ m := by
  obtain ⟨n, hn⟩ := h
  induction n using Nat.strongRecOn with
  | _ n ih =>
    by_cases h : ∃ m, m < n ∧ p m
    · obtain ⟨m, h1, h2⟩ := h
      exact ih m h1 h2
    · exact ⟨n, hn, fun m hm => Nat.le_of_not_lt fun hlt => h ⟨m, hlt, hm⟩⟩
def Seen (o0 : List Ob) (s s' : St) : Prop := ∃ ρ l, seen o0 ρ s s' = some l ∧ AllEq l
section
variable {P : Program} {ty : Tys} {w0 : World} {g0 : Gh} {o0 : List Ob} {N : Nat}
def RoundOk {X : Type} (o0 : List Ob) (S : X → St) (J : X → Prop) (μ : X → Nat) (x : X) (Q : Ex → St → Prop) : Ex → St → Prop
  | .normal, s => ∃ x', J x' ∧ μ x' < μ x ∧ Seen o0 s (S x')
  | e, s => Q e s
theorem loop_rule (hT : TyOk P ty) (hm : P.follows .mixedOrders = true) {cs : Nat → List AV → List Ob → Option (AV × List Ob)} {ord : Nat → OT} {c : Code} (hd : dstOk N c = true) (ho : ordOk .any ty ord c = true)
    {X : Type} (S : X → St) (J : X → Prop) (μ : X → Nat) {Q : Ex → St → Prop} {s : St} (x0 : X) (h0 : J x0) (hS : Seen o0 s (S x0))
    (round : ∀ x, J x → (aexec std ty cs ord c (fun e s => .leaf e s) (S x)).ok P w0 g0 o0 N (RoundOk o0 S J μ x Q)) : WP P w0 g0 o0 N (.loop c) Q s := by
  intro a w hs
  obtain ⟨ρ, l, hl, hE⟩ := hS
  let I : Act → World → Prop := fun a w => ∃ x, J x ∧ Sim w0 g0 o0 N (S x) a w
  let pm : Act → World → Nat → Prop := fun a w n => ∃ x, J x ∧ Sim w0 g0 o0 N (S x) a w ∧ μ x = n
  let m : Act → World → Nat := fun a w => open Classical in if h : ∃ n, pm a w n then Classical.choose (least _ h) else 0
  have hmin : ∀ a w, I a w → pm a w (m a w) ∧ ∀ k, pm a w k → m a w ≤ k := fun a w hI => by
    have h : ∃ n, pm a w n := by
      obtain ⟨x, h1, h2⟩ := hI
      exact ⟨μ x, x, h1, h2, rfl⟩
    have e : m a w = Classical.choose (least _ h) := dif_pos h
    rw [e]
    exact Classical.choose_spec (least _ h)
  refine wp_loop I m ⟨x0, h0, seen_sim ρ hl hE hs⟩ fun a w hI => ?_
  obtain ⟨⟨x, hJ, hx, hμ⟩, hle⟩ := hmin a w hI
  refine aexec_sound (Q := RoundOk o0 S J μ x Q) hT hm c _ _ (S x) a w hd ho (fun c a d v w h => ?_) (fun e s a' w' hs' hq => ?_) hx (round x hJ)
  · obtain ⟨e', s', h1, h2, h3⟩ := h
    cases e' <;> cases h1
  · cases e with
    | normal =>
      obtain ⟨x', h1, h2, ρ', l', h3, h4⟩ := hq
      have hs2 := seen_sim ρ' h3 h4 hs'
      have hI' : I a' w' := ⟨x', h1, hs2⟩
      refine ⟨hI', Nat.lt_of_le_of_lt ((hmin a' w' hI').2 _ ⟨x', h1, hs2, rfl⟩) ?_⟩
      rw [← hμ]; exact h2
    | exit i => exact ⟨.exit i, s, rfl, hs', hq⟩
    | ret => exact ⟨.ret, s, rfl, hs', hq⟩
end
end Go.Proofs.Ytblafdmmebiagaa
namespace Go.Proofs.Ytblafdmmebiagaa
open Go.RowKit Go.Lib
section
variable {P : Program} {w w' : World} {g : Gh} {ob : List Ob}
theorem argsNil {vs : List Value} (h : ARelL w g ob vs []) : vs = [] := List.eq_nil_of_length_eq_zero h.1
theorem argsCons {vs : List Value} {x : AV} {r : List AV} (h : ARelL w g ob vs (x :: r)) : ∃ v vs', vs = v :: vs' ∧ ARel1 w g ob v x ∧ ARelL w g ob vs' r := by
  cases vs with
  | nil => exact absurd h.1 (by simp)
  | cons v vs => exact ⟨v, vs, rfl, h.2 0 v x rfl rfl, by simpa using h.1, fun j a b ha hb => h.2 (j + 1) a b (by simpa using ha) (by simpa using hb)⟩
theorem argVal {v u : Value} (h : ARel1 w g ob v (.val u)) : v = u := ARel.valEq (ARel1.to h)
theorem argRd {v : Value} {sz : Nat} {xs : List AV} (h : ARel1 w g [] v (.slc sz xs)) (M : Mem w g []) :
    ∃ A c ys, v = .slice A xs.length c ∧ Rd w (fun _ => True) sz A xs.length c ys ∧ Alike w g.A ys (flatA xs) :=
  elems_rel (s := ⟨[], []⟩) M (ARel1.to h) rfl
theorem alikeVals {A : Nat → Nat → Prop} {us : List Value} : ∀ {ys : List Value}, Alike w A ys (us.map .val) → ys = us := by
  induction us with
  | nil => intro ys h; exact List.eq_nil_of_length_eq_zero h.1
  | cons u us ih =>
    intro ys h
    cases ys with
    | nil => exact absurd h.1 (by simp)
    | cons y ys =>
      have h1 : PRel w A y (.val u) := h.2 0 y (.val u) rfl rfl
      have h2 : y = u := by cases h1; rfl
      rw [h2, ih (ys := ys) ⟨by simpa using h.1, fun j a b ha hb => h.2 (j + 1) a b (by simpa using ha) (by simpa using hb)⟩]
theorem flatVals (us : List Value) : flatA (us.map .val) = us.map .val := by
  induction us with
  | nil => rfl
  | cons u us ih => simp only [flatA, List.map_cons, List.flatMap_cons] at ih ⊢; rw [ih]; rfl
theorem rd_slc {A' : Nat → Nat → Prop} {S : Nat → Prop} {sz n c : Nat} {A : Option Addr} {ys : List Value} {xs : List AV} (hr : Rd w S sz A n c ys) (hS : ∀ b o, S b → A' b o) (hn : n = xs.length) (hw : ∀ x ∈ xs, x.cells.length = sz) (hA : ∀ a, A = some a → ∃ b o, a = ⟨b, o, none⟩)
    (hal : Alike w A' ys (flatA xs)) : PRel w A' (.slice A n c) (.slc sz xs) := by
  subst hn
  obtain ⟨h1, h2, h3, h4, h5⟩ := hr
  cases A with
  | none =>
    have hc := h4 rfl
    subst hc
    have : xs = [] := List.eq_nil_of_length_eq_zero (by omega)
    subst this
    exact PRel.nil sz
  | some a =>
    obtain ⟨b, o, rfl⟩ := hA a rfl
    have pos : ∀ (j : Nat) u, (flatA xs)[j]? = some u → 0 < xs.length := fun j u hu => by
      cases xs with
      | nil => simp at hu
      | cons _ _ => simp
    have h5' : 0 < xs.length → S b ∧ ∀ j u, ys[j]? = some u → w.cell? ⟨b, o + j, none⟩ = some u := fun h => by
      obtain ⟨b', o', h6, h7, h8⟩ := h5 h
      cases h6
      exact ⟨h7, h8⟩
    have get : ∀ (j : Nat) u, (flatA xs)[j]? = some u → ∃ y, ys[j]? = some y ∧ ys.getD j undef = y := fun j u hu => by
      have hj : j < ys.length := by rw [hal.1]; exact lt_of_some hu
      exact ⟨ys[j], List.getElem?_eq_getElem hj, by rw [List.getD_eq_getElem?_getD, List.getElem?_eq_getElem hj]; rfl⟩
    refine PRel.slc b o c sz xs (fun j => ys.getD j undef) h2 h3 hw (fun j u hu => ?_) (fun j u hu => ?_)
    · obtain ⟨y, hy, he⟩ := get j u hu
      obtain ⟨h7, h8⟩ := h5' (pos j u hu)
      exact ⟨hS _ _ h7, by rw [he]; exact h8 j y hy⟩
    · obtain ⟨y, hy, he⟩ := get j u hu
      rw [he]; exact hal.2 j y u hy hu
theorem leT_rel : ∀ {vs : List Value} {xs ys : List AV}, ARelL w g ob vs xs → leT xs ys → ARelL w g ob vs ys
  | vs, [], [], h, _ => h
  | _, [], _ :: _, _, hl => hl.elim
  | _, _ :: _, [], _, hl => hl.elim
  | [], x :: r, y :: r', h, _ => absurd h.1 (by simp)
  | v :: vs, x :: r, y :: r', h, hl => by
    have h1 := h.2 0 v x rfl rfl
    have h2 : ARelL w g ob vs r' := leT_rel (xs := r) ⟨by simpa using h.1, fun j a b ha hb => h.2 (j + 1) a b (by simpa using ha) (by simpa using hb)⟩ hl.2
    refine ⟨by simp [h2.1], fun j a b ha hb => ?_⟩
    cases j with
    | zero =>
      obtain rfl : v = a := by simpa using ha
      obtain rfl : y = b := by simpa using hb
      exact leA1_rel h1 hl.1
    | succ j => exact h2.2 j a b (by simpa using ha) (by simpa using hb)
theorem BCall.le {f : Nat} {args args' : List AV} {ob ob' : List Ob} {res : AV} (h : BCall P f args' ob res ob') (hl : leT args args') : BCall P f args ob res ob' :=
  ⟨h.1, fun w g vs M hL => h.2 w g vs M (leT_rel hL hl)⟩
theorem BCall.forget {f : Nat} {args : List AV} {ob ob' : List Ob} {res : AV} (h : BCall P f args ob res ob') : BCall P f args ob .dead ob' :=
  ⟨h.1, fun w g vs M hL => (h.2 w g vs M hL).mono fun e w' ⟨v, g', h1, h2, h3, h4⟩ => ⟨v, g', h1, h2, trivial, h4⟩⟩
theorem BCall.res {f : Nat} {args : List AV} {ob ob' : List Ob} {res res' : AV} (h : BCall P f args ob res ob') (hl : leA res res') : BCall P f args ob res' ob' :=
  ⟨h.1, fun w g vs M hL => (h.2 w g vs M hL).mono fun e w' ⟨v, g', h1, h2, h3, h4⟩ => ⟨v, g', h1, h2, leA_rel h3 hl, h4⟩⟩
theorem BCall.hand {f : Nat} {args : List AV} {res : AV} (he : ∀ vs w, (callFunc f vs).run P w = .ok (.enter f vs) w)
    (h : ∀ (w : World) (g : Gh) (vs : List Value), Mem w g [] → ARelL w g [] vs args → Calls P f vs.toArray w fun e w' => ∃ v, e = .returned v ∧ Below w.heap.size w w' ∧ ARel w' (g.imm w w') [] v res) : BCall P f args [] res [] :=
  ⟨he, fun w g vs M hL => (h w g vs M hL).mono fun e w' ⟨v, h1, hb, hr⟩ => ⟨v, g.imm w w', h1, M.immNew hb, hr, Step.immNew M hb⟩⟩
end
end Go.Proofs.Ytblafdmmebiagaa
