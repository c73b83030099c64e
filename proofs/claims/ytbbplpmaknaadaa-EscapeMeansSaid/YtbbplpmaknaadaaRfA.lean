/-
  Layers 7, 14: references, pieces: what the code computes; runes put by references mean what they were. No program in sight.
-/
import Derived.Test.YtbbplpmaknaadaaLexF
import Derived.Test.YtbbplpmaknaadaaPut
namespace Go.Proofs.Ytbbplpmaknaadaa
open Go.RowKit Go.Lib

def isDig (r : Int) : Bool := (digitF r).2
def isHex (r : Int) : Bool := (hexF r).2
def endedF (l : List Int) (p n : Nat) : Bool := decide (0 < n) && (l[p + n]? == some 59)
def digN (l : List Int) (k : Nat) : Nat := ((l.drop (k + 2)).takeWhile isDig).length
def hexN (l : List Int) (k : Nat) : Nat := ((l.drop (k + 3)).takeWhile isHex).length
/-- what begins with a & at a place: its kind, where it ends, whether it is whole -/
def refF (l : List Int) (k : Nat) : Nat × Nat × Bool :=
  if startsF l k [38, 35, 120] && endedF l (k + 3) (hexN l k) then (3, k + 4 + hexN l k, true)
  else if startsF l k [38, 35] && endedF l (k + 2) (digN l k) then (3, k + 3 + digN l k, true)
  else if endedF l (k + 1) (leadF l (k + 1)) then (2, k + 2 + leadF l (k + 1), true)
  else (11, k + 1, false)
def worthF (l : List Int) (base : Int) : Int := l.foldl (fun v r => min (v * base + (hexF r).1) 1114112) 0
def numV (l : List Int) : Int := if l[2]? = some 120 then worthF ((l.drop 3).take (l.length - 1 - 3)) 16 else worthF ((l.drop 2).take (l.length - 1 - 2)) 10
def numF (l : List Int) : Option Int := if (refF l 0).1 = 3 ∧ (refF l 0).2.1 = l.length ∧ isChar (numV l) = true then some (numV l) else none
structure Pc where
  kind : Nat
  frm : Nat
  to : Nat
  r : Int
  name : List UInt8
def pieceF (l : List Int) (k : Nat) : Pc :=
  if (refF l k).1 = 3 then
    (match numF ((l.drop k).take ((refF l k).2.1 - k)) with
     | some r => ⟨2, k, (refF l k).2.1, r, []⟩
     | none => ⟨4, k, (refF l k).2.1, 0, []⟩)
  else if (refF l k).1 = 2 then ⟨3, k, (refF l k).2.1, 0, bytesF ((l.drop (k + 1)).take ((refF l k).2.1 - 1 - (k + 1)))⟩
  else ⟨4, k, k + 1, 0, []⟩
def notAmp (r : Int) : Bool := r != 38
def nextP (l : List Int) (k : Nat) : Pc := if l[k]? = some 38 then pieceF l k else ⟨1, k, k + ((l.drop k).takeWhile notAmp).length, 0, []⟩
def piecesGo (l : List Int) : Nat → Nat → List Pc
  | 0, _ => []
  | f + 1, k => if k < l.length then nextP l k :: piecesGo l f (nextP l k).to else []
def piecesF (l : List Int) : List Pc := piecesGo l l.length 0
def knownF (s : List UInt8) : Option Int :=
  if s = [108, 116] then some 60 else if s = [103, 116] then some 62 else if s = [97, 109, 112] then some 38 else if s = [97, 112, 111, 115] then some 39 else if s = [113, 117, 111, 116] then some 34 else none
def valP (l : List Int) (p : Pc) : Option (List Int) :=
  if p.kind = 1 then some ((l.drop p.frm).take (p.to - p.frm)) else if p.kind = 2 then some [p.r] else if p.kind = 3 then (knownF p.name).map (fun r => [r]) else none
def plainGo (l : List Int) : List Pc → Option (List Int)
  | [] => some []
  | p :: t => match valP l p with
    | none => none
    | some xs => (plainGo l t).map (xs ++ ·)
def plainlyF (l : List Int) : Option (List Int) := plainGo l (piecesF l)

/-! ### shifts -/
theorem starts_shift (l : List Int) (k : Nat) (bs : List UInt8) : startsF l k bs = startsF (l.drop k) 0 bs := by simp [startsF]
theorem ended_shift (l : List Int) (k p n : Nat) : endedF l (k + p) n = endedF (l.drop k) p n := by
  rw [endedF, endedF, List.getElem?_drop, Nat.add_assoc]
theorem hexN_shift (l : List Int) (k : Nat) : hexN l k = hexN (l.drop k) 0 := by simp [hexN]
theorem digN_shift (l : List Int) (k : Nat) : digN l k = digN (l.drop k) 0 := by simp [digN]
theorem lead_shift (l : List Int) (k p : Nat) : leadF l (k + p) = leadF (l.drop k) p := by
  rw [leadF, leadF, List.getElem?_drop, List.drop_drop]
theorem refF_shift (l : List Int) (k : Nat) : refF l k = ((refF (l.drop k) 0).1, k + (refF (l.drop k) 0).2.1, (refF (l.drop k) 0).2.2) := by
  unfold refF
  rw [starts_shift l k, starts_shift l k, ended_shift l k 3, ended_shift l k 2, ended_shift l k 1, hexN_shift l k, digN_shift l k, lead_shift l k 1]
  simp only [Nat.zero_add]
  repeat' split
  all_goals simp only [Prod.mk.injEq, true_and, and_true]
  all_goals omega
theorem refF_pos (l : List Int) (k : Nat) : k < (refF l k).2.1 := by
  unfold refF
  repeat' split
  all_goals (simp only; omega)
theorem ended_le (l : List Int) (p n : Nat) (h : endedF l p n = true) : p + n < l.length := by
  rw [endedF, Bool.and_eq_true, beq_iff_eq] at h
  exact (List.getElem?_eq_some_iff.1 h.2).1
theorem refF_le (l : List Int) (k : Nat) (hk : k < l.length) : (refF l k).2.1 ≤ l.length := by
  unfold refF
  split
  · rename_i h
    have := ended_le _ _ _ (Bool.and_eq_true_iff.1 h).2
    simp only; omega
  · split
    · rename_i h
      have := ended_le _ _ _ (Bool.and_eq_true_iff.1 h).2
      simp only; omega
    · split
      · rename_i h
        have := ended_le _ _ _ h
        simp only; omega
      · simp only; omega

/-! ### on what is left of a row -/
def sufN (s : List Int) : Nat := (nextP s 0).to
def sufV (s : List Int) : Option (List Int) := valP s (nextP s 0)
theorem sufN_pos (s : List Int) (h : s ≠ []) : 1 ≤ sufN s := by
  unfold sufN nextP
  split
  · unfold pieceF
    have := refF_pos s 0
    repeat' split
    all_goals (simp only; omega)
  · rename_i h0
    simp only
    cases s with
    | nil => exact absurd rfl h
    | cons a t =>
      have ha : notAmp a = true := by simpa [notAmp] using h0
      simp [ha]
def plS (s : List Int) : Option (List Int) :=
  if _h : s = [] then some []
  else match sufV s with
    | none => none
    | some xs => (plS (s.drop (sufN s))).map (xs ++ ·)
termination_by s.length
decreasing_by
  have := sufN_pos s (by assumption)
  have : 0 < s.length := List.length_pos_iff.2 (by assumption)
  simp only [List.length_drop]
  omega

theorem plS_nil : plS [] = some [] := by rw [plS]; simp
theorem plS_cons (s : List Int) (h : s ≠ []) : plS s = match sufV s with
    | none => none
    | some xs => (plS (s.drop (sufN s))).map (xs ++ ·) := by rw [plS]; simp [h]

theorem nextP_shift (l : List Int) (k : Nat) : (nextP l k).to = k + sufN (l.drop k) ∧ valP l (nextP l k) = sufV (l.drop k) := by
  unfold sufN sufV nextP
  have e : (l.drop k)[0]? = l[k]? := by simp
  rw [e]
  split
  · unfold pieceF
    rw [refF_shift l k]
    simp only [Nat.add_sub_cancel_left, Nat.sub_zero, List.drop_zero]
    split
    · split <;> simp [valP]
    · split
      · refine ⟨rfl, ?_⟩
        simp only [valP]
        rw [show k + (refF (l.drop k) 0).2.1 - 1 - (k + 1) = (refF (l.drop k) 0).2.1 - 1 - (0 + 1) by omega]
        simp
      · simp [valP]
  · simp [valP]

theorem plainGo_suf (l : List Int) : ∀ (f k : Nat), l.length - k ≤ f → plainGo l (piecesGo l f k) = plS (l.drop k) := by
  intro f
  induction f with
  | zero =>
    intro k h
    rw [List.drop_eq_nil_of_le (by omega), plS_nil]; rfl
  | succ f ih =>
    intro k h
    rw [piecesGo]
    by_cases hk : k < l.length
    · have hne : l.drop k ≠ [] := by intro e; have := congrArg List.length e; simp at this; omega
      have hp := sufN_pos _ hne
      rw [if_pos hk, plainGo, (nextP_shift l k).2, (nextP_shift l k).1, plS_cons _ hne, ih _ (by omega), List.drop_drop]
    · rw [if_neg hk, List.drop_eq_nil_of_le (by omega), plS_nil]; rfl
theorem plainlyF_suf (l : List Int) : plainlyF l = plS l := by rw [plainlyF, piecesF, plainGo_suf l l.length 0 (by omega), List.drop_zero]

theorem suf_plain (r : Int) (t : List Int) (h : r ≠ 38) : sufN (r :: t) = 1 + (t.takeWhile notAmp).length ∧ sufV (r :: t) = some (r :: t.takeWhile notAmp) := by
  have hr : notAmp r = true := by simpa [notAmp] using h
  have h0 : ¬ (r :: t)[0]? = some 38 := by simpa using h
  unfold sufV sufN nextP
  rw [if_neg h0]
  have e : ((r :: t).drop 0).takeWhile notAmp = r :: t.takeWhile notAmp := by rw [List.drop_zero, List.takeWhile_cons, hr]; rfl
  rw [e]
  refine ⟨by simp; omega, ?_⟩
  simp only [valP, if_true, List.drop_zero, Nat.zero_add, Nat.sub_zero, List.length_cons, List.take_succ_cons, Option.some.injEq, List.cons.injEq, true_and]
  exact (List.prefix_iff_eq_take.1 (List.takeWhile_prefix _)).symm

theorem plS_plain (r : Int) (t : List Int) (h : r ≠ 38) : plS (r :: t) = (plS t).map (r :: ·) := by
  rw [plS_cons _ (by simp), (suf_plain r t h).1, (suf_plain r t h).2]
  cases t with
  | nil => simp [plS_nil]
  | cons a t2 =>
    by_cases ha : a = 38
    · subst ha
      have e : (38 :: t2).takeWhile notAmp = [] := by rw [List.takeWhile_cons]; rfl
      rw [e]
      simp
    · have hr : notAmp a = true := by simpa [notAmp] using ha
      rw [plS_cons (a :: t2) (by simp), (suf_plain a t2 ha).1, (suf_plain a t2 ha).2]
      have e : (a :: t2).takeWhile notAmp = a :: t2.takeWhile notAmp := by rw [List.takeWhile_cons, hr]; rfl
      rw [e]
      simp only [List.length_cons]
      rw [show 1 + ((t2.takeWhile notAmp).length + 1) = (1 + (t2.takeWhile notAmp).length) + 1 by omega, List.drop_succ_cons, Option.map_map]
      rfl

theorem plS_code (c t : List Int) (v : Int) (hc : c ≠ []) (h1 : sufN (c ++ t) = c.length) (h2 : sufV (c ++ t) = some [v]) : plS (c ++ t) = (plS t).map (v :: ·) := by
  rw [plS_cons _ (by simp [hc]), h1, h2, List.drop_left]
  rfl

end Go.Proofs.Ytbbplpmaknaadaa
