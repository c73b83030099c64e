/-
  Layer 1 (scan), the plain law: bytes as runes; the rune at the beginning of bytes is one thing by Go's decoding and by trying 1 to 4 bytes. No program in sight.
-/
import Derived.Test.YtbbplpmaknaadaaBase
import Derived.Lib.MapLaws
namespace Go.Proofs.Ytbbplpmaknaadaa
open Go.RowKit Go.Lib

def widthF (r : Int) : Nat := if r < 0 ∨ 1114111 < r ∨ (55296 ≤ r ∧ r ≤ 57343) then 0 else if r < 128 then 1 else if r < 2048 then 2 else if r < 65536 then 3 else 4
def firstF (l : List UInt8) : Int × Nat := if (decodeL l).1 = 65533 ∧ (decodeL l).2 = 1 then (-1, 1) else (((decodeL l).1 : Int), (decodeL l).2)
def itemsGo : Nat → Nat → List UInt8 → List (Int × Nat × Nat)
  | 0, _, _ => []
  | _ + 1, _, [] => []
  | k + 1, off, b :: t => ((firstF (b :: t)).1, off, (firstF (b :: t)).2) :: itemsGo k (off + (firstF (b :: t)).2) ((b :: t).drop (firstF (b :: t)).2)
def itemsF (l : List UInt8) : List (Int × Nat × Nat) := itemsGo l.length 0 l
def runesF (l : List UInt8) : List Int := (itemsF l).map (·.1)

theorem getD_enc (x : Int) (h : 0 ≤ x ∧ x < 256) : (x.toNat.toUInt8).toNat = x.toNat := by
  show (UInt8.ofNat x.toNat).toNat = _
  rw [UInt8.toNat_ofNat']; omega

theorem enc_width (v : Int) (h : 0 < widthF v) : (encodeRune v).length = widthF v := by
  unfold widthF at h ⊢
  split at h
  · omega
  · rename_i h1
    rw [if_neg h1]
    unfold encodeRune
    rw [List.length_map]
    split
    · rw [encodeRuneZ_one (by omega) (by omega)]; rfl
    · split
      · rw [encodeRuneZ_two (by omega) (by omega)]; rfl
      · split
        · rw [encodeRuneZ_three (by omega)]; rfl
        · rw [encodeRuneZ_four (by omega) (by omega)]; rfl

theorem decode_encode (v : Int) (h : 0 < widthF v) (t : List UInt8) : decodeL (encodeRune v ++ t) = (v.toNat, widthF v) := by
  rw [decodeL_N]
  have hl := enc_width v h
  unfold widthF at h hl ⊢
  split at h
  · omega
  · rename_i h1
    rw [if_neg h1] at hl ⊢
    unfold encodeRune at hl ⊢
    by_cases h2 : v < 128
    · rw [encodeRuneZ_one (by omega) (by omega), if_pos h2]
      simp only [List.map_cons, List.map_nil, List.cons_append, List.nil_append, List.getD_cons_zero]
      rw [getD_enc v (by omega), decodeN, if_pos (by omega)]
    · rw [if_neg h2] at hl ⊢
      by_cases h3 : v < 2048
      · rw [encodeRuneZ_two (by omega) (by omega), if_pos h3]
        simp only [List.map_cons, List.map_nil, List.cons_append, List.nil_append, List.getD_cons_zero, List.getD_cons_succ, List.length_cons]
        rw [getD_enc _ (by omega), getD_enc _ (by omega), decodeN, if_neg (by omega), if_pos (by omega), if_pos (by omega)]
        simp only [Prod.mk.injEq, and_true]
        omega
      · rw [if_neg h3] at hl ⊢
        by_cases h4 : v < 65536
        · rw [encodeRuneZ_three (by omega), if_pos h4]
          simp only [List.map_cons, List.map_nil, List.cons_append, List.nil_append, List.getD_cons_zero, List.getD_cons_succ, List.length_cons]
          rw [getD_enc _ (by omega), getD_enc _ (by omega), getD_enc _ (by omega), decodeN, if_neg (by omega), if_neg (by omega), if_pos (by omega), if_pos (by omega)]
          simp only [Prod.mk.injEq, and_true]
          omega
        · rw [encodeRuneZ_four (by omega) (by omega), if_neg h4]
          simp only [List.map_cons, List.map_nil, List.cons_append, List.nil_append, List.getD_cons_zero, List.getD_cons_succ, List.length_cons]
          rw [getD_enc _ (by omega), getD_enc _ (by omega), getD_enc _ (by omega), getD_enc _ (by omega), decodeN, if_neg (by omega), if_neg (by omega), if_neg (by omega), if_pos (by omega), if_pos (by omega)]
          simp only [Prod.mk.injEq, and_true]
          omega

theorem firstF_enc (v : Int) (h : 0 < widthF v) (t : List UInt8) : firstF (encodeRune v ++ t) = (v, widthF v) := by
  have hd := decode_encode v h t
  have hv : 0 ≤ v := by unfold widthF at h; split at h <;> omega
  rw [firstF, hd]
  simp only
  rw [if_neg]
  · rw [Int.toNat_of_nonneg hv]
  · rintro ⟨h1, h2⟩
    have : v = 65533 := by omega
    subst this
    revert h2
    decide

theorem firstF_pos (l : List UInt8) : 1 ≤ (firstF l).2 := by
  unfold firstF; split
  · exact Nat.le_refl _
  · exact decodeL_width l
theorem firstF_le (l : List UInt8) (h : l ≠ []) : (firstF l).2 ≤ l.length := by
  unfold firstF; split
  · exact List.length_pos_iff.2 h
  · exact decodeL_le l h
theorem firstF_range (l : List UInt8) : -1 ≤ (firstF l).1 ∧ (firstF l).1 ≤ 1114111 := by
  unfold firstF; split
  · exact ⟨by simp, by simp⟩
  · have := decodeL_rune l; refine ⟨?_, ?_⟩ <;> dsimp only <;> omega

/-- What is no rune's: no rune's bytes begin it. -/
theorem firstF_bad (l : List UInt8) (h : (firstF l).1 = -1) (v : Int) (hv : 0 < widthF v) : ¬ ∃ t, l = encodeRune v ++ t := by
  rintro ⟨t, rfl⟩
  rw [firstF_enc v hv] at h
  simp only at h
  subst h
  exact absurd hv (by decide)
theorem firstF_good (l : List UInt8) (hne : l ≠ []) (h : (firstF l).1 ≠ -1) : l.take (firstF l).2 = encodeRune (firstF l).1 := by
  have h' : ¬ ((decodeL l).1 = 65533 ∧ (decodeL l).2 = 1) := fun hh => h (by rw [firstF, if_pos hh])
  have := encode_decode l hne h'
  rw [firstF, if_neg h']
  exact this.symm

theorem itemsGo_nil (k off : Nat) : itemsGo k off [] = [] := by cases k <;> rfl
theorem itemsGo_more (k : Nat) : ∀ (j off : Nat) (l : List UInt8), l.length ≤ k → l.length ≤ j → itemsGo k off l = itemsGo j off l := by
  induction k with
  | zero => intro j off l h1 h2; have : l = [] := List.eq_nil_of_length_eq_zero (by omega); subst this; rw [itemsGo_nil, itemsGo_nil]
  | succ k ih =>
    intro j off l h1 h2
    cases l with
    | nil => rw [itemsGo_nil, itemsGo_nil]
    | cons b t =>
      cases j with
      | zero => simp at h2
      | succ j =>
        simp only [itemsGo]
        have hp := firstF_pos (b :: t)
        rw [ih j _ _ (by rw [List.length_drop]; simp only [List.length_cons] at h1 ⊢; omega) (by rw [List.length_drop]; simp only [List.length_cons] at h2 ⊢; omega)]

/-- One step: whatever is left behind a place. -/
theorem itemsGo_step (off : Nat) (l : List UInt8) (h : l ≠ []) : itemsGo l.length off l = ((firstF l).1, off, (firstF l).2) :: itemsGo (l.drop (firstF l).2).length (off + (firstF l).2) (l.drop (firstF l).2) := by
  cases l with
  | nil => exact absurd rfl h
  | cons b t =>
    have hp := firstF_pos (b :: t)
    show itemsGo (t.length + 1) off (b :: t) = _
    simp only [itemsGo]
    rw [itemsGo_more t.length _ _ _ (by rw [List.length_drop]; simp only [List.length_cons]; omega) (Nat.le_refl _)]

end Go.Proofs.Ytbbplpmaknaadaa
