/-
  Regions that draw their order and append to a row of the call's own: the class of worlds that keep all blocks but the row's.
-/
import Derived.Test.YtbbplpmaknaadaaMix
import Derived.Test.YtbbplpmaknaadaaOwn
namespace Go.Proofs.Ytbbplpmaknaadaa
open Go.RowKit Go.Lib

def onlyN (K : Act → World → Prop) : Exit → Act → World → Prop
  | .normal, a, w => K a w
  | _, _, _ => False

/-- One operation, met by a law on lists of operations. -/
theorem wp_of_list {P : Program} {ops : Array Oper} {o : Oper} {a : Act} {w : World} {K : Act → World → Prop} {Q : Exit → Act → World → Prop} (hw : Region.wanted o (yielded ops a.tmps) = true)
    (h : wpList P ops (onlyN K) [o] a w) : o.wp P a w K Q := by
  simp only [wpList, hw, if_true] at h
  rcases h with h | ⟨_, a', w', h⟩
  · unfold Oper.wp at *
    generalize (execOp a.eval o).run P w = r at *
    cases r with
    | ok n w' =>
      cases n <;> simp only [Oper.upon] at h ⊢ <;>
        first
          | exact h
          | exact Calls.mono h (fun e w'' he => by
              cases e with
              | returned v => exact he
              | panicked c => exact he.elim
              | outgrown => obtain ⟨a', w', h'⟩ := he; exact h'.elim)
    | halt x w' => cases x <;> simp only [Oper.upon] at h ⊢ <;> exact h.elim
  · exact h.elim

abbrev LeG (row : Option Nat) (w W : World) : Prop := w.grownBy W row
theorem LeG.refl (row : Option Nat) (w : World) : LeG row w w := ⟨rfl, rfl, rfl, Nat.le_refl _, fun _ _ _ => rfl⟩
theorem LeG.trans (row : Option Nat) (a b c : World) (h : LeG row a b) (k : LeG row b c) : LeG row a c :=
  ⟨k.os.trans h.os, k.tape.trans h.tape, k.output.trans h.output, Nat.le_trans h.size k.size, fun i hi hne => (k.block i (Nat.lt_of_lt_of_le hi h.size) hne).trans (h.block i hi hne)⟩
theorem LeG.of_below {row : Option Nat} {w W : World} (h : Below w.heap.size w W) : LeG row w W := ⟨h.os, h.tape, h.output, h.size, fun k hk _ => h.block k hk⟩
theorem LeG.cell {row : Option Nat} {w W : World} (h : LeG row w W) {p : Addr} {v : Value} (hc : w.cell? p = some v) (hp : row ≠ some p.block) : W.cell? p = some v :=
  (World.cell?_of_block (h.block _ (World.block_lt_of_cell? w p hc) (fun e => hp e.symm))).trans hc

/-! ### Exact worlds: a still operation yields its value in every world that the region may come to; a loud one is met in the very world that it finds -/
section
variable {P : Program} {ops : Array Oper} {Q : Exit → Act → World → Prop} {md : Region.Mode} {Le : World → World → Prop}

def wpX (P : Program) (md : Region.Mode) (ops : Array Oper) (Le : World → World → Prop) (Q : Exit → Act → World → Prop) : Nat → Array Bool → Act → World → Prop
  | 0, listed, a, w => Region.ready md ops listed = [] ∧ Q .normal a w
  | n + 1, listed, a, w => (Region.ready md ops listed = [] → Q .normal a w) ∧
      ∀ i ∈ Region.ready md ops listed, wpOp P ops Q i (fun a' w' => Le w w' ∧ wpX P md ops Le Q n (listed.setIfInBounds i true) a' w') a w

theorem wpAny_of_X : ∀ (n : Nat) (listed : Array Bool) (a : Act) (w : World), wpX P md ops Le Q n listed a w → wpAny P md ops Q n listed a w
  | 0, _, _, _, h => h
  | n + 1, _, _, _, h => ⟨h.1, fun i hi => wpOp_mono (fun a' w' h' => wpAny_of_X n _ a' w' h'.2) (h.2 i hi)⟩

theorem wpX_first (hrf : ∀ a, Le a a) (ht : ∀ a b c, Le a b → Le b c → Le a c) {i : Nat} {oi : Oper} {v : Value} (hi : ops[i]? = some oi)
    (hsel : ∀ (j : Nat) (o : Oper) cs b, ops[j]? = some o → o.op ≠ .select cs b)
    (hQ : ∀ c a w, Q (.panic c) (a.put oi.dst v) w → Q (.panic c) a w) :
    ∀ (n : Nat) (listed : Array Bool) (a : Act) (w : World),
      (∀ j oj, ops[j]? = some oj → j ≠ i → listed.getD j true = false → (∀ e ∈ oj.after, Region.binds md e = true → e.on ≠ i) → oi.apart ops oj = true) →
      i ∈ Region.ready md ops listed → YieldsIf P ops (Le w) oi v a →
      wpX P md ops Le Q n (listed.setIfInBounds i true) (a.put oi.dst v) w → wpX P md ops Le Q (n + 1) listed a w := by
  intro n
  induction n with
  | zero =>
    intro listed a w _ hr hy H
    refine ⟨fun h => (by rw [h] at hr; cases hr), fun j hj => ?_⟩
    by_cases hji : j = i
    · subst hji; exact hy.wpOp hi (hrf _) ⟨hrf _, H⟩
    · have := ready_mono hj hji
      rw [H.1] at this
      cases this
  | succ n ih =>
    intro listed a w hfree hr hy H
    refine ⟨fun h => (by rw [h] at hr; cases hr), fun j hj => ?_⟩
    by_cases hji : j = i
    · subst hji; exact hy.wpOp hi (hrf _) ⟨hrf _, H⟩
    · have h1 := H.2 j (ready_mono hj hji)
      obtain ⟨hjun, oj, hoj, hall⟩ := mem_ready.1 hj
      have hnot : ∀ e ∈ oj.after, Region.binds md e = true → e.on ≠ i := fun e he hb heq => by
        have h1 := hall e he hb
        have h0 := (mem_ready.1 hr).1
        rw [heq] at h1
        rcases Nat.lt_or_ge i listed.size with h' | h'
        · simp [h'] at h0 h1; rw [h0] at h1; cases h1
        · simp [Array.getElem?_eq_none h'] at h1
      have h2 := wpOp_putIf (S := Le w) hoj (hfree j oj hoj hji hjun hnot) (fun cs b => hsel i oi cs b hi) (fun cs b => hsel j oj cs b hoj) hQ hy h1
      have hfree' : ∀ k ok, ops[k]? = some ok → k ≠ i → (listed.setIfInBounds j true).getD k true = false →
          (∀ e ∈ ok.after, Region.binds md e = true → e.on ≠ i) → oi.apart ops ok = true := fun k ok hk hki hun hno => by
        refine hfree k ok hk hki ?_ hno
        by_cases hjk : j = k
        · subst hjk; exact hjun
        · rw [getD_set_ne true hjk] at hun; exact hun
      refine wpOp_mono (fun a' w' h3 => ⟨h3.2.1, ih (listed.setIfInBounds j true) a' w' hfree' (ready_mono hr (Ne.symm hji)) (YieldsIf.weaken h3.1 fun V hV => ht _ _ _ h3.2.1 hV) ?_⟩) h2
      rw [Array.setIfInBounds_comm _ _ hji]
      exact h3.2.2

def wpE (P : Program) (ops : Array Oper) (Le : World → World → Prop) (Q : Exit → Act → World → Prop) : List (Nat × Bool) → Act → World → Prop
  | [], a, w => Q .normal a w
  | (i, s) :: rest, a, w => match ops[i]? with
    | none => True
    | some o => if s then
        (if Region.wanted o (yielded ops a.tmps) then ∃ v, (∀ W, Le w W → (execOp a.eval o).run P W = .ok (.value v) W) ∧ wpE P ops Le Q rest (a.put o.dst v) w else wpE P ops Le Q rest (a.put o.dst undef) w)
      else if Region.wanted o (yielded ops a.tmps) then o.wp P a w (fun a' w' => Le w w' ∧ wpE P ops Le Q rest a' w') Q else wpE P ops Le Q rest (a.put o.dst undef) w

theorem wpE_sound (hrf : ∀ a, Le a a) (ht : ∀ a b c, Le a b → Le b c → Le a c) (hs : Region.noSelect ops = true)
    (hQ : ∀ c a (d : Tmp) v w, Q (.panic c) (a.put (some d) v) w → Q (.panic c) a w) :
    ∀ (ord : List (Nat × Bool)) (listed : Array Bool) (a : Act) (w : World), schedOk md ops ord listed = true → wpE P ops Le Q ord a w → wpX P md ops Le Q ord.length listed a w
  | [], listed, a, w, hB, h => ⟨by simpa [schedOk] using hB, h⟩
  | (i, true) :: rest, listed, a, w, hB, h => by
    simp only [schedOk, if_true, Bool.and_eq_true] at hB
    obtain ⟨⟨hr, hf⟩, hB⟩ := hB
    obtain ⟨o, ho⟩ := ready_some (by simpa using hr)
    simp only [wpE, ho, if_true] at h
    by_cases hw : Region.wanted o (yielded ops a.tmps) = true
    · simp only [hw, if_true] at h
      obtain ⟨v, hv, h⟩ := h
      exact wpX_first hrf ht ho (Region.noSelect_spec hs) (fun c a w => panic_put hQ c a _ _ w) _ listed a w (Region.free_spec ho hf) (by simpa using hr) (.inl ⟨hw, hv⟩) (wpE_sound hrf ht hs hQ rest _ _ _ hB h)
    · simp only [hw] at h
      exact wpX_first hrf ht ho (Region.noSelect_spec hs) (fun c a w => panic_put hQ c a _ _ w) _ listed a w (Region.free_spec ho hf) (by simpa using hr) (.inr ⟨by simpa using hw, rfl⟩) (wpE_sound hrf ht hs hQ rest _ _ _ hB h)
  | (i, false) :: rest, listed, a, w, hB, h => by
    simp only [schedOk, Bool.and_eq_true, Bool.false_eq_true, if_false, beq_iff_eq] at hB
    obtain ⟨hr, hB⟩ := hB
    obtain ⟨o, ho⟩ := ready_some (i := i) (by rw [hr]; simp)
    simp only [wpE, ho, Bool.false_eq_true, if_false] at h
    refine ⟨fun h0 => (by rw [hr] at h0; cases h0), fun j hj => ?_⟩
    rw [hr] at hj
    obtain rfl := List.mem_singleton.1 hj
    unfold wpOp
    simp only [ho]
    split
    · rename_i hw
      simp only [hw, if_true] at h
      exact .inl (Oper.wp_mono (fun a' w' h' => ⟨h'.1, wpE_sound hrf ht hs hQ rest _ _ _ hB h'.2⟩) h)
    · rename_i hw
      simp only [hw] at h
      exact ⟨hrf _, wpE_sound hrf ht hs hQ rest _ _ _ hB h⟩

theorem wpE_nil {a : Act} {w : World} (h : Q .normal a w) : wpE P ops Le Q [] a w := h
theorem wpE_still {i : Nat} {o : Oper} {rest : List (Nat × Bool)} {a : Act} {w : World} (ho : ops[i]? = some o)
    (h : ∀ K : Act → Prop, Hid (∀ a, wpE P ops Le Q rest a w → K a) → if Region.wanted o (yielded ops a.tmps) then ∃ v, (∀ W, Le w W → (execOp a.eval o).run P W = .ok (.value v) W) ∧ K (a.put o.dst v) else K (a.put o.dst undef)) :
    wpE P ops Le Q ((i, true) :: rest) a w := by
  simp only [wpE, ho, if_true]
  exact h _ (fun _ h => h)
theorem wpE_loud {i : Nat} {o : Oper} {rest : List (Nat × Bool)} {a : Act} {w : World} (ho : ops[i]? = some o)
    (h : ∀ (K : Act → World → Prop), Hid (∀ a w', Le w w' → wpE P ops Le Q rest a w' → K a w') → if Region.wanted o (yielded ops a.tmps) then o.wp P a w K Q else (Le w w → K (a.put o.dst undef) w)) (hrf : ∀ a, Le a a) :
    wpE P ops Le Q ((i, false) :: rest) a w := by
  simp only [wpE, ho, Bool.false_eq_true, if_false]
  have h1 := h (fun a' w' => Le w w' ∧ wpE P ops Le Q rest a' w') (fun _ _ h1 h2 => ⟨h1, h2⟩)
  split
  · rename_i hw; simpa only [hw, if_true] using h1
  · rename_i hw
    simp only [hw] at h1
    exact (h1 (hrf w)).2

/-- One without a guard, by a law on lists of operations. -/
theorem wpE_op {i : Nat} {o : Oper} {rest : List (Nat × Bool)} {a : Act} {w : World} (ho : ops[i]? = some o) (hg : o.guard = none)
    (h : ∀ (K : Act → World → Prop), Hid (∀ a w', Le w w' → wpE P ops Le Q rest a w' → K a w') → wpList P ops (onlyN K) [o] a w) : wpE P ops Le Q ((i, false) :: rest) a w := by
  have hw : Region.wanted o (yielded ops a.tmps) = true := by simp [Region.wanted, hg]
  simp only [wpE, ho, Bool.false_eq_true, if_false, hw, if_true]
  exact wp_of_list hw (h _ (fun _ _ h1 h2 => ⟨h1, h2⟩))

theorem wp_region_E {id : Nat} {a : Act} {w : World} {l : List Oper} (hrf : ∀ a, Le a a) (ht : ∀ a b c, Le a b → Le b c → Le a c) (ord : List (Nat × Bool)) (hm : P.follows .mixedOrders = true)
    (hB : (Region.noSelect l.toArray && ord.length == l.length && schedOk .any l.toArray ord (Array.replicate l.length false)) = true)
    (hQ : ∀ c a (d : Tmp) v w, Q (.panic c) (a.put (some d) v) w → Q (.panic c) a w)
    (h : wpE P l.toArray Le Q ord a w.drew) : (Code.region id l.toArray true).wp P Q a w := by
  simp only [Bool.and_eq_true, beq_iff_eq] at hB
  obtain ⟨⟨h1, h2⟩, h3⟩ := hB
  refine wp_region_any hm (wpAny_of_X (Le := Le) _ _ _ _ ?_)
  have := wpE_sound hrf ht h1 hQ ord _ a _ h3 h
  rw [h2] at this
  simpa using this

/-- At 'all blocks but the row's'. -/
theorem wp_region_G {id : Nat} {a : Act} {w : World} {l : List Oper} (row : Option Nat) (ord : List (Nat × Bool)) (hm : P.follows .mixedOrders = true)
    (hB : (Region.noSelect l.toArray && ord.length == l.length && schedOk .any l.toArray ord (Array.replicate l.length false)) = true)
    (hQ : ∀ c a (d : Tmp) v w, Q (.panic c) (a.put (some d) v) w → Q (.panic c) a w)
    (h : wpE P l.toArray (LeG row) Q ord a w.drew) : (Code.region id l.toArray true).wp P Q a w :=
  wp_region_E (LeG.refl row) (LeG.trans row) ord hm hB hQ h
/-- At 'all blocks'. -/
theorem wp_region_B {id : Nat} {a : Act} {w : World} {l : List Oper} (ord : List (Nat × Bool)) (hm : P.follows .mixedOrders = true)
    (hB : (Region.noSelect l.toArray && ord.length == l.length && schedOk .any l.toArray ord (Array.replicate l.length false)) = true)
    (hQ : ∀ c a (d : Tmp) v w, Q (.panic c) (a.put (some d) v) w → Q (.panic c) a w)
    (h : wpE P l.toArray LeB Q ord a w.drew) : (Code.region id l.toArray true).wp P Q a w :=
  wp_region_E LeB.refl LeB.trans ord hm hB hQ h
end

end Go.Proofs.Ytbbplpmaknaadaa
