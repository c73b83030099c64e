/-
  Layer 14: runes put by references mean what they were. No program in sight.
-/
import Derived.Test.YtbbplpmaknaadaaRfA
namespace Go.Proofs.Ytbbplpmaknaadaa
open Go.RowKit Go.Lib

theorem suf_ref (s : List Int) (to : Nat) (nm : List UInt8) (v : Int) (h0 : s[0]? = some 38) (hr : refF s 0 = (2, to, true)) (hn : bytesF ((s.drop 1).take (to - 1 - 1)) = nm) (hk : knownF nm = some v) :
    sufN s = to ∧ sufV s = some [v] := by
  unfold sufV sufN nextP
  rw [if_pos h0]
  unfold pieceF
  rw [hr]
  subst hn
  refine ⟨by simp, ?_⟩
  simpa [valP] using hk
theorem suf_num (s : List Int) (to : Nat) (v : Int) (h0 : s[0]? = some 38) (hr : refF s 0 = (3, to, true)) (hn : numF (s.take to) = some v) : sufN s = to ∧ sufV s = some [v] := by
  unfold sufV sufN nextP
  rw [if_pos h0]
  unfold pieceF
  rw [hr]
  simp [valP, hn]

theorem lead_code (a : Int) (m t : List Int) (ha : isNameStart a = true) (hm : ∀ x ∈ a :: m, isNameChar x = true) : leadF (38 :: ((a :: m) ++ 59 :: t)) 1 = m.length + 1 := by
  have h59 : isNameChar 59 = false := by decide
  unfold leadF
  simp only [List.cons_append, List.getElem?_cons_succ, List.getElem?_cons_zero, ha, if_true, List.drop_succ_cons, List.drop_zero]
  rw [show a :: (m ++ 59 :: t) = (a :: m) ++ 59 :: t from rfl, List.takeWhile_append_of_pos hm, List.takeWhile_cons, h59]
  simp
theorem ref_name (a : Int) (m t : List Int) (ha : isNameStart a = true) (hm : ∀ x ∈ a :: m, isNameChar x = true) (h35 : a ≠ 35) : refF (38 :: ((a :: m) ++ 59 :: t)) 0 = (2, m.length + 3, true) := by
  have h1 : startsF (38 :: ((a :: m) ++ 59 :: t)) 0 [38, 35, 120] = false := starts_miss _ 0 _ 1 (by decide) (by simp) (by simp [h35])
  have h2 : startsF (38 :: ((a :: m) ++ 59 :: t)) 0 [38, 35] = false := starts_miss _ 0 _ 1 (by decide) (by simp) (by simp [h35])
  unfold refF
  rw [h1, h2]
  simp only [Bool.false_and, Bool.false_eq_true, if_false, Nat.zero_add]
  rw [lead_code a m t ha hm]
  have h3 : endedF (38 :: ((a :: m) ++ 59 :: t)) 1 (m.length + 1) = true := by
    rw [endedF]
    simp only [Bool.and_eq_true, decide_eq_true_iff, beq_iff_eq]
    refine ⟨by omega, ?_⟩
    rw [show 1 + (m.length + 1) = (m.length + 1) + 1 by omega, List.getElem?_cons_succ, List.getElem?_append_right (by simp)]
    simp
  rw [h3, if_pos rfl]
  simp only [Prod.mk.injEq, true_and, and_true]
  omega
theorem ref_hex (d : Int) (t : List Int) (hd : isHex d = true) : refF ([38, 35, 120, d, 59] ++ t) 0 = (3, 5, true) := by
  have h59 : isHex 59 = false := by decide
  have h1 : startsF ([38, 35, 120, d, 59] ++ t) 0 [38, 35, 120] = true := by simp [startsF, bi]
  have h2 : hexN ([38, 35, 120, d, 59] ++ t) 0 = 1 := by simp [hexN, hd, h59]
  have h3 : endedF ([38, 35, 120, d, 59] ++ t) 3 1 = true := by simp [endedF]
  unfold refF
  rw [h2]
  simp only [Nat.zero_add]
  rw [h1, h3]
  simp

theorem code_name (a : Int) (m t : List Int) (nm : List UInt8) (v : Int) (ha : isNameStart a = true) (hm : ∀ x ∈ a :: m, isNameChar x = true) (h35 : a ≠ 35) (hn : bytesF (a :: m) = nm) (hk : knownF nm = some v) :
    plS (38 :: ((a :: m) ++ 59 :: t)) = (plS t).map (v :: ·) := by
  have hr := ref_name a m t ha hm h35
  have h := suf_ref _ _ nm v (by simp) hr (by
    rw [show m.length + 3 - 1 - 1 = (a :: m).length by simp, List.drop_succ_cons, List.drop_zero, List.take_left]
    exact hn) hk
  have e : 38 :: ((a :: m) ++ 59 :: t) = (38 :: (a :: m) ++ [59]) ++ t := by simp
  rw [e] at h ⊢
  exact plS_code _ t v (by simp) (by rw [h.1]; simp) h.2
theorem code_hex (d : Int) (t : List Int) (v : Int) (hd : isHex d = true) (hn : numF [38, 35, 120, d, 59] = some v) : plS ([38, 35, 120, d, 59] ++ t) = (plS t).map (v :: ·) := by
  have h := suf_num _ 5 v (by simp) (ref_hex d t hd) (by simpa using hn)
  exact plS_code _ t v (by simp) (by rw [h.1]; rfl) h.2

theorem plS_sign (l : List Int) (q : Int) (i : Nat) (t : List Int) : plS (signR l q i ++ t) = (plS t).map (l.getD i 0 :: ·) := by
  unfold signR
  generalize l.getD i 0 = r
  generalize two93 l i = b
  by_cases e : signF r q b = []
  · rw [e, if_pos rfl]
    have hr : r ≠ 38 := by
      rintro rfl
      simp [signF] at e
    simpa [bi] using plS_plain r t hr
  · rw [if_neg e, List.nil_append]
    unfold signF at e ⊢
    split
    · rename_i h
      rw [beq_iff_eq.1 h]
      exact code_name 97 [109, 112] t [97, 109, 112] 38 (by decide) (by decide) (by decide) (by decide +kernel) (by decide)
    · split
      · rename_i h
        rw [beq_iff_eq.1 h]
        exact code_name 108 [116] t [108, 116] 60 (by decide) (by decide) (by decide) (by decide +kernel) (by decide)
      · split
        · rename_i h
          rw [beq_iff_eq.1 (Bool.and_eq_true_iff.1 h).1]
          exact code_name 103 [116] t [103, 116] 62 (by decide) (by decide) (by decide) (by decide +kernel) (by decide)
        · split
          · rename_i h
            rw [beq_iff_eq.1 h]
            exact code_hex 68 t 13 (by decide) (by decide +kernel)
          · split
            · simp_all
            · rename_i hq
              split
              · rename_i h
                rw [beq_iff_eq.1 (Bool.and_eq_true_iff.1 h).2]
                exact code_name 113 [117, 111, 116] t [113, 117, 111, 116] 34 (by decide) (by decide) (by decide) (by decide +kernel) (by decide)
              · rename_i h34
                split
                · rename_i h
                  have hr : r = 39 := by
                    have h := beq_iff_eq.1 h
                    simp at hq h34
                    subst h
                    by_cases h2 : r = 34
                    · exact absurd h2 (by simpa using h34)
                    · exact hq h2
                  rw [hr]
                  exact code_name 97 [112, 111, 115] t [97, 112, 111, 115] 39 (by decide) (by decide) (by decide) (by decide +kernel) (by decide)
                · split
                  · rename_i h
                    rw [beq_iff_eq.1 h]
                    exact code_hex 57 t 9 (by decide) (by decide +kernel)
                  · split
                    · rename_i h
                      rw [beq_iff_eq.1 h]
                      exact code_hex 65 t 10 (by decide) (by decide +kernel)
                    · simp_all

theorem plS_put (l : List Int) (q : Int) : ∀ (n j : Nat), j + n = l.length → plS ((List.range' j n).flatMap (signR l q)) = some (l.drop j) := by
  intro n
  induction n with
  | zero =>
    intro j h
    rw [List.drop_eq_nil_of_le (by omega)]
    exact plS_nil
  | succ n ih =>
    intro j h
    have hj : j < l.length := by omega
    rw [List.range'_succ, List.flatMap_cons, plS_sign, ih (j + 1) (by omega), List.drop_eq_getElem_cons hj, getD_at hj]
    rfl
/-- runes put by references mean what they were -/
theorem plainly_put (l : List Int) (q : Int) : plainlyF (putF l q) = some l := by
  rw [plainlyF_suf, putF, putTo, List.range_eq_range']
  exact plS_put l q l.length 0 (by omega)

end Go.Proofs.Ytbbplpmaknaadaa
