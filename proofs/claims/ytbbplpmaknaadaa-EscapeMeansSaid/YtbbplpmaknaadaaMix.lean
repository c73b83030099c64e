/-
  A region that draws its order and holds operations that make memory beside such that only read: one order serves all.
  'Le w W': what the world W keeps of w. An operation is still at w if it yields one value in every W with Le w W, and leaves W; such may be taken first. One that is loud is taken where it alone may come up, from any W.
  General in 'Le' (any order on worlds); no condition else.
-/
import Derived.Test.YtbbplpmaknaadaaBase
import Derived.OrdersHeld
namespace Go.Proofs.Ytbbplpmaknaadaa
open Go.RowKit Go.Lib

section
variable {P : Program} {ops : Array Oper} {Q : Exit → Act → World → Prop} {md : Region.Mode} {Le : World → World → Prop}

def wpU (P : Program) (md : Region.Mode) (ops : Array Oper) (Le : World → World → Prop) (Q : Exit → Act → World → Prop) : Nat → Array Bool → Act → World → Prop
  | 0, listed, a, w => Region.ready md ops listed = [] ∧ ∀ W, Le w W → Q .normal a W
  | n + 1, listed, a, w => (Region.ready md ops listed = [] → ∀ W, Le w W → Q .normal a W) ∧
      ∀ i ∈ Region.ready md ops listed, ∀ W, Le w W → wpOp P ops Q i (fun a' w' => Le W w' ∧ wpU P md ops Le Q n (listed.setIfInBounds i true) a' w') a W

theorem wpU_up (ht : ∀ a b c, Le a b → Le b c → Le a c) : ∀ (n : Nat) (listed : Array Bool) (a : Act) (w W : World), wpU P md ops Le Q n listed a w → Le w W → wpU P md ops Le Q n listed a W
  | 0, _, _, _, _, h, hW => ⟨h.1, fun V hV => h.2 V (ht _ _ _ hW hV)⟩
  | _ + 1, _, _, _, _, h, hW => ⟨fun h0 V hV => h.1 h0 V (ht _ _ _ hW hV), fun i hi V hV => h.2 i hi V (ht _ _ _ hW hV)⟩

theorem wpAny_of_U (hrf : ∀ a, Le a a) : ∀ (n : Nat) (listed : Array Bool) (a : Act) (w : World), wpU P md ops Le Q n listed a w → wpAny P md ops Q n listed a w
  | 0, _, _, _, h => ⟨h.1, h.2 _ (hrf _)⟩
  | n + 1, _, _, _, h => ⟨fun h0 => h.1 h0 _ (hrf _), fun i hi => wpOp_mono (fun a' w' h' => wpAny_of_U hrf n _ a' w' h'.2) (h.2 i hi _ (hrf _))⟩

theorem YieldsIf.weaken {S T : World → Prop} {o : Oper} {v : Value} {a : Act} (h : YieldsIf P ops S o v a) (hT : ∀ w, T w → S w) : YieldsIf P ops T o v a :=
  h.imp (fun ⟨h1, h2⟩ => ⟨h1, fun w hw => h2 w (hT w hw)⟩) id

theorem wpU_first (hrf : ∀ a, Le a a) (ht : ∀ a b c, Le a b → Le b c → Le a c) {i : Nat} {oi : Oper} {v : Value} (hi : ops[i]? = some oi)
    (hsel : ∀ (j : Nat) (o : Oper) cs b, ops[j]? = some o → o.op ≠ .select cs b)
    (hQ : ∀ c a w, Q (.panic c) (a.put oi.dst v) w → Q (.panic c) a w) :
    ∀ (n : Nat) (listed : Array Bool) (a : Act) (w : World),
      (∀ j oj, ops[j]? = some oj → j ≠ i → listed.getD j true = false → (∀ e ∈ oj.after, Region.binds md e = true → e.on ≠ i) → oi.apart ops oj = true) →
      i ∈ Region.ready md ops listed → YieldsIf P ops (Le w) oi v a →
      wpU P md ops Le Q n (listed.setIfInBounds i true) (a.put oi.dst v) w → wpU P md ops Le Q (n + 1) listed a w := by
  intro n
  induction n with
  | zero =>
    intro listed a w _ hr hy H
    refine ⟨fun h => (by rw [h] at hr; cases hr), fun j hj W hW => ?_⟩
    by_cases hji : j = i
    · subst hji; exact hy.wpOp hi hW ⟨hrf _, wpU_up ht _ _ _ _ _ H hW⟩
    · have := ready_mono hj hji
      rw [H.1] at this
      cases this
  | succ n ih =>
    intro listed a w hfree hr hy H
    refine ⟨fun h => (by rw [h] at hr; cases hr), fun j hj W hW => ?_⟩
    by_cases hji : j = i
    · subst hji; exact hy.wpOp hi hW ⟨hrf _, wpU_up ht _ _ _ _ _ H hW⟩
    · have h1 := H.2 j (ready_mono hj hji) W hW
      obtain ⟨hjun, oj, hoj, hall⟩ := mem_ready.1 hj
      have hnot : ∀ e ∈ oj.after, Region.binds md e = true → e.on ≠ i := fun e he hb heq => by
        have h1 := hall e he hb
        have h0 := (mem_ready.1 hr).1
        rw [heq] at h1
        rcases Nat.lt_or_ge i listed.size with h' | h'
        · simp [h'] at h0 h1; rw [h0] at h1; cases h1
        · simp [Array.getElem?_eq_none h'] at h1
      have h2 := wpOp_putIf (S := Le w) hoj (hfree j oj hoj hji hjun hnot) (fun cs b => hsel i oi cs b hi) (fun cs b => hsel j oj cs b hoj) hQ hy h1
      have hfree' : ∀ k ok, ops[k]? = some ok → k ≠ i → (listed.setIfInBounds j true).getD k true = false →
          (∀ e ∈ ok.after, Region.binds md e = true → e.on ≠ i) → oi.apart ops ok = true := fun k ok hk hki hun hno => by
        refine hfree k ok hk hki ?_ hno
        by_cases hjk : j = k
        · subst hjk; exact hjun
        · rw [getD_set_ne true hjk] at hun; exact hun
      refine wpOp_mono (fun a' w' h3 => ⟨h3.2.1, ih (listed.setIfInBounds j true) a' w' hfree' (ready_mono hr (Ne.symm hji)) (YieldsIf.weaken h3.1 fun V hV => ht _ _ _ (ht _ _ _ hW h3.2.1) hV) ?_⟩) h2
      rw [Array.setIfInBounds_comm _ _ hji]
      exact h3.2.2

/-- The order taken: (number, whether it is still). -/
def schedOk (md : Region.Mode) (ops : Array Oper) : List (Nat × Bool) → Array Bool → Bool
  | [], listed => (Region.ready md ops listed).isEmpty
  | (i, s) :: rest, listed => (if s then (Region.ready md ops listed).contains i && Region.free md ops listed i else Region.ready md ops listed == [i]) && schedOk md ops rest (listed.setIfInBounds i true)

/-- The walk in that order: each operation as it is to be met. -/
def wpMix (P : Program) (ops : Array Oper) (Le : World → World → Prop) (Q : Exit → Act → World → Prop) : List (Nat × Bool) → Act → World → Prop
  | [], a, w => ∀ W, Le w W → Q .normal a W
  | (i, s) :: rest, a, w => match ops[i]? with
    | none => True
    | some o => if s then
        (if Region.wanted o (yielded ops a.tmps) then ∃ v, (∀ W, Le w W → (execOp a.eval o).run P W = .ok (.value v) W) ∧ wpMix P ops Le Q rest (a.put o.dst v) w else wpMix P ops Le Q rest (a.put o.dst undef) w)
      else ∀ W, Le w W → if Region.wanted o (yielded ops a.tmps) then o.wp P a W (fun a' w' => Le W w' ∧ wpMix P ops Le Q rest a' w') Q else wpMix P ops Le Q rest (a.put o.dst undef) W

theorem ready_some {i : Nat} {listed : Array Bool} (h : i ∈ Region.ready md ops listed) : ∃ o, ops[i]? = some o := by
  obtain ⟨_, o, ho, _⟩ := mem_ready.1 h
  exact ⟨o, ho⟩

theorem panic_put (hQ : ∀ c a (d : Tmp) v w, Q (.panic c) (a.put (some d) v) w → Q (.panic c) a w) (c : List PanicEntry) (a : Act) (d : Option Tmp) (v : Value) (w : World)
    (h : Q (.panic c) (a.put d v) w) : Q (.panic c) a w := by
  cases d with
  | none => exact h
  | some d => exact hQ c a d v w h

theorem wpMix_sound (hrf : ∀ a, Le a a) (ht : ∀ a b c, Le a b → Le b c → Le a c) (hs : Region.noSelect ops = true)
    (hQ : ∀ c a (d : Tmp) v w, Q (.panic c) (a.put (some d) v) w → Q (.panic c) a w) :
    ∀ (ord : List (Nat × Bool)) (listed : Array Bool) (a : Act) (w : World), schedOk md ops ord listed = true → wpMix P ops Le Q ord a w → wpU P md ops Le Q ord.length listed a w
  | [], listed, a, w, hB, h => ⟨by simpa [schedOk] using hB, h⟩
  | (i, true) :: rest, listed, a, w, hB, h => by
    simp only [schedOk, if_true, Bool.and_eq_true] at hB
    obtain ⟨⟨hr, hf⟩, hB⟩ := hB
    obtain ⟨o, ho⟩ := ready_some (by simpa using hr)
    simp only [wpMix, ho, if_true] at h
    by_cases hw : Region.wanted o (yielded ops a.tmps) = true
    · simp only [hw, if_true] at h
      obtain ⟨v, hv, h⟩ := h
      exact wpU_first hrf ht ho (Region.noSelect_spec hs) (fun c a w => panic_put hQ c a _ _ w) _ listed a w (Region.free_spec ho hf) (by simpa using hr) (.inl ⟨hw, hv⟩) (wpMix_sound hrf ht hs hQ rest _ _ _ hB h)
    · simp only [hw] at h
      exact wpU_first hrf ht ho (Region.noSelect_spec hs) (fun c a w => panic_put hQ c a _ _ w) _ listed a w (Region.free_spec ho hf) (by simpa using hr) (.inr ⟨by simpa using hw, rfl⟩) (wpMix_sound hrf ht hs hQ rest _ _ _ hB h)
  | (i, false) :: rest, listed, a, w, hB, h => by
    simp only [schedOk, Bool.and_eq_true, Bool.false_eq_true, if_false, beq_iff_eq] at hB
    obtain ⟨hr, hB⟩ := hB
    obtain ⟨o, ho⟩ := ready_some (i := i) (by rw [hr]; simp)
    simp only [wpMix, ho, Bool.false_eq_true, if_false] at h
    refine ⟨fun h0 => (by rw [hr] at h0; cases h0), fun j hj W hW => ?_⟩
    rw [hr] at hj
    obtain rfl := List.mem_singleton.1 hj
    have h1 := h W hW
    unfold wpOp
    simp only [ho]
    split
    · rename_i hw
      simp only [hw, if_true] at h1
      exact .inl (Oper.wp_mono (fun a' w' h' => ⟨h'.1, wpMix_sound hrf ht hs hQ rest _ _ _ hB h'.2⟩) h1)
    · rename_i hw
      simp only [hw] at h1
      exact ⟨hrf _, wpMix_sound hrf ht hs hQ rest _ _ _ hB h1⟩

theorem wpMix_nil {a : Act} {w : World} (h : ∀ W, Le w W → Q .normal a W) : wpMix P ops Le Q [] a w := h

/-- One that is still; what follows behind a variable. -/
theorem wpMix_still {i : Nat} {o : Oper} {rest : List (Nat × Bool)} {a : Act} {w : World} (ho : ops[i]? = some o)
    (h : ∀ K : Act → Prop, Hid (∀ a, wpMix P ops Le Q rest a w → K a) → if Region.wanted o (yielded ops a.tmps) then ∃ v, (∀ W, Le w W → (execOp a.eval o).run P W = .ok (.value v) W) ∧ K (a.put o.dst v) else K (a.put o.dst undef)) :
    wpMix P ops Le Q ((i, true) :: rest) a w := by
  simp only [wpMix, ho, if_true]
  exact h _ (fun _ h => h)

/-- One that is loud. -/
theorem wpMix_loud {i : Nat} {o : Oper} {rest : List (Nat × Bool)} {a : Act} {w : World} (ho : ops[i]? = some o)
    (h : ∀ (K : Act → World → Prop) (W : World), Hid (Le w W) → Hid (∀ a w', Le W w' → wpMix P ops Le Q rest a w' → K a w') → if Region.wanted o (yielded ops a.tmps) then o.wp P a W K Q else (Le W W → K (a.put o.dst undef) W)) (hrf : ∀ a, Le a a) :
    wpMix P ops Le Q ((i, false) :: rest) a w := by
  simp only [wpMix, ho, Bool.false_eq_true, if_false]
  intro W hW
  have h1 := h (fun a' w' => Le W w' ∧ wpMix P ops Le Q rest a' w') W hW (fun _ _ h1 h2 => ⟨h1, h2⟩)
  split
  · rename_i hw; simpa only [hw, if_true] using h1
  · rename_i hw
    simp only [hw] at h1
    exact (h1 (hrf W)).2

abbrev LeB (w W : World) : Prop := Below w.heap.size w W
theorem LeB.refl (w : World) : LeB w w := Below.refl _ w
theorem LeB.trans (a b c : World) (h : LeB a b) (k : LeB b c) : LeB a c := Below.trans h (Below.mono k h.size)
theorem LeB.drew (w : World) : LeB w w.drew := (Below.refl _ w).drew

theorem wp_region_mix {id : Nat} {a : Act} {w : World} {l : List Oper} (hrf : ∀ a, Le a a) (ht : ∀ a b c, Le a b → Le b c → Le a c) (ord : List (Nat × Bool)) (hm : P.follows .mixedOrders = true)
    (hB : (Region.noSelect l.toArray && ord.length == l.length && schedOk .any l.toArray ord (Array.replicate l.length false)) = true)
    (hQ : ∀ c a (d : Tmp) v w, Q (.panic c) (a.put (some d) v) w → Q (.panic c) a w)
    (h : wpMix P l.toArray Le Q ord a w.drew) : (Code.region id l.toArray true).wp P Q a w := by
  simp only [Bool.and_eq_true, beq_iff_eq] at hB
  obtain ⟨⟨h1, h2⟩, h3⟩ := hB
  refine wp_region_any hm (wpAny_of_U hrf _ _ _ _ ?_)
  have := wpMix_sound hrf ht h1 hQ ord _ a _ h3 h
  rw [h2] at this
  simpa using this

/-- At 'LeB'. -/
theorem wp_region_mixB {id : Nat} {a : Act} {w : World} {l : List Oper} (ord : List (Nat × Bool)) (hm : P.follows .mixedOrders = true)
    (hB : (Region.noSelect l.toArray && ord.length == l.length && schedOk .any l.toArray ord (Array.replicate l.length false)) = true)
    (hQ : ∀ c a (d : Tmp) v w, Q (.panic c) (a.put (some d) v) w → Q (.panic c) a w)
    (h : ∀ W, Hid (LeB w W) → wpMix P l.toArray LeB Q ord a W) : (Code.region id l.toArray true).wp P Q a w :=
  wp_region_mix LeB.refl LeB.trans ord hm hB hQ (h _ (LeB.drew w))

end
/-- A row of known cells that was just laid, its block's number told. -/
theorem Rd.litN (w : World) (B : Nat) (hB : w.heap.size = B) (t : TypeId) (cs : Array Value) (size n : Nat) (hs : cs.size = n * size) (hm : n ≤ maxLen) :
    Rd (w.alloc (.cells cs t)) (fun b => B ≤ b) size (some ⟨B, 0, none⟩) n n cs.toList := by
  subst hB; exact Rd.lit w t cs size n hs hm

end Go.Proofs.Ytbbplpmaknaadaa
