/- Lemmas, conditions told -/
import Derived.Test.YtdmbfngenffcaaaGreatQB02
import Derived.Test.YtdmbfngenffcaaaGreatQB01
import Derived.Lib.Bytealg
set_option linter.unusedSimpArgs false
set_option linter.unusedVariables false
namespace Go.Proofs.YtdmbfngenffcaaaGreat
open Go.RowKit Go.Lib
def isQuo (r : Int) : Bool := r == 34 || r == 39
def quoF (l : List Int) (q : Int) (k : Nat) : Nat × Bool := if h : k < l.length then (if l[k] = q then (k + 1, true) else quoF l q (k + 1)) else (l.length, false)
termination_by l.length - k
theorem quoF_hit (l : List Int) (q : Int) (k : Nat) (h : k < l.length) (hq : l[k] = q) : quoF l q k = (k + 1, true) := by rw [quoF, dif_pos h, if_pos hq]
theorem quoF_miss (l : List Int) (q : Int) (k : Nat) (h : k < l.length) (hq : l[k] ≠ q) : quoF l q k = quoF l q (k + 1) := by rw [quoF, dif_pos h, if_neg hq]
theorem quoF_end (l : List Int) (q : Int) (k : Nat) (h : ¬ k < l.length) : quoF l q k = (l.length, false) := by rw [quoF, dif_neg h]
theorem quoF_range (l : List Int) (q : Int) : ∀ (n k : Nat), l.length - k ≤ n → k ≤ l.length → k ≤ (quoF l q k).1 ∧ (quoF l q k).1 ≤ l.length ∧ (k < l.length → k < (quoF l q k).1 ∨ (quoF l q k).1 = l.length) := by
  intro n
  induction n with
  | zero =>
    intro k h hk
    rw [quoF_end l q k (by omega)]
    simp only; omega
  | succ n ih =>
    intro k h hk
    by_cases hlt : k < l.length
    · by_cases hq : l[k] = q
      · rw [quoF_hit l q k hlt hq]; simp only; omega
      · rw [quoF_miss l q k hlt hq]
        have := ih (k + 1) (by omega) (by omega)
        omega
    · rw [quoF_end l q k hlt]; simp only; omega
def quotedF (l : List Int) (k : Nat) : Nat × Bool := quoF l (l.getD k 0) (k + 1)
theorem quotedF_gt (l : List Int) (k : Nat) (h : k < l.length) : k < (quotedF l k).1 ∧ (quotedF l k).1 ≤ l.length := by
  have := quoF_range l (l.getD k 0) l.length (k + 1) (by omega) (by omega)
  unfold quotedF; omega
def angleF (l : List Int) (stops : Bool) (k : Nat) : Nat × Bool :=
  if h : k < l.length then
    (if isQuo l[k] then angleF l stops (quotedF l k).1 else if l[k] = 62 then (k, true) else if l[k] = 60 ∧ stops = true then (k, false) else angleF l stops (k + 1))
  else (l.length, false)
termination_by l.length - k
decreasing_by
  · have := quotedF_gt l k (by assumption); omega
  · omega
theorem angleF_end (l : List Int) (s : Bool) (k : Nat) (h : ¬ k < l.length) : angleF l s k = (l.length, false) := by rw [angleF, dif_neg h]
theorem angleF_quo (l : List Int) (s : Bool) (k : Nat) (h : k < l.length) (hq : isQuo l[k] = true) : angleF l s k = angleF l s (quotedF l k).1 := by
  conv => lhs; rw [angleF]
  rw [dif_pos h, if_pos hq]
theorem angleF_gt (l : List Int) (s : Bool) (k : Nat) (h : k < l.length) (hq : l[k] = 62) : angleF l s k = (k, true) := by
  rw [angleF, dif_pos h, if_neg (by rw [hq]; decide), if_pos hq]
theorem angleF_lt (l : List Int) (k : Nat) (h : k < l.length) (hq : l[k] = 60) : angleF l true k = (k, false) := by
  rw [angleF, dif_pos h, if_neg (by rw [hq]; decide), if_neg (by rw [hq]; decide), if_pos ⟨hq, rfl⟩]
theorem angleF_next (l : List Int) (s : Bool) (k : Nat) (h : k < l.length) (h1 : isQuo l[k] = false) (h2 : l[k] ≠ 62) (h3 : ¬ (l[k] = 60 ∧ s = true)) : angleF l s k = angleF l s (k + 1) := by
  conv => lhs; rw [angleF]
  rw [dif_pos h, if_neg (by simp [h1]), if_neg h2, if_neg h3]
theorem angleF_range (l : List Int) (s : Bool) : ∀ (n k : Nat), l.length - k ≤ n → k ≤ l.length → k ≤ (angleF l s k).1 ∧ (angleF l s k).1 ≤ l.length ∧ ((angleF l s k).2 = true → (angleF l s k).1 < l.length) := by
  intro n
  induction n with
  | zero =>
    intro k h hk
    rw [angleF_end l s k (by omega)]
    simp; omega
  | succ n ih =>
    intro k h hk
    by_cases hlt : k < l.length
    · cases hq : isQuo l[k] with
      | true =>
        have := quotedF_gt l k hlt
        have := ih (quotedF l k).1 (by omega) (by omega)
        rw [angleF_quo l s k hlt hq]; exact ⟨by omega, by omega, this.2.2⟩
      | false =>
        by_cases h2 : l[k] = 62
        · rw [angleF_gt l s k hlt h2]; simp; omega
        · by_cases h3 : l[k] = 60 ∧ s = true
          · obtain ⟨h3, rfl⟩ := h3
            rw [angleF_lt l k hlt h3]; simp; omega
          · have := ih (k + 1) (by omega) (by omega)
            rw [angleF_next l s k hlt hq h2 h3]; exact ⟨by omega, by omega, this.2.2⟩
    · rw [angleF_end l s k hlt]
      simp; omega
end Go.Proofs.YtdmbfngenffcaaaGreat
namespace Go.Proofs.YtdmbfngenffcaaaGreat
open Go.RowKit Go.Lib
def upToF (l : List Int) (kd k skip : Nat) (bs : List UInt8) : Nat × Nat × Bool := match findF l (min (k + skip) l.length) l.length bs with
  | none => (kd, l.length, false)
  | some j => (kd, j + bs.length, true)
def endGo (l : List Int) (k : Nat) : Nat × Bool := if h : k < l.length then (if l[k] = 62 then (k + 1, true) else if l[k] = 60 then (k, false) else endGo l (k + 1)) else (l.length, false)
termination_by l.length - k
def endTF (l : List Int) (k : Nat) : Nat × Nat × Bool := (10, (endGo l (k + 2)).1, (endGo l (k + 2)).2)
def startTF (l : List Int) (k : Nat) : Nat × Nat × Bool :=
  if (angleF l true (k + 1)).2 = false then (8, (angleF l true (k + 1)).1, false)
  else if l[(angleF l true (k + 1)).1 - 1]? = some 47 then (9, (angleF l true (k + 1)).1 + 1, true) else (8, (angleF l true (k + 1)).1 + 1, true)
theorem endGo_gt (l : List Int) (k : Nat) (h : k < l.length) (hq : l[k] = 62) : endGo l k = (k + 1, true) := by rw [endGo, dif_pos h, if_pos hq]
theorem endGo_lt (l : List Int) (k : Nat) (h : k < l.length) (hq : l[k] = 60) : endGo l k = (k, false) := by rw [endGo, dif_pos h, if_neg (by rw [hq]; decide), if_pos hq]
theorem endGo_next (l : List Int) (k : Nat) (h : k < l.length) (h1 : l[k] ≠ 62) (h2 : l[k] ≠ 60) : endGo l k = endGo l (k + 1) := by rw [endGo, dif_pos h, if_neg h1, if_neg h2]
theorem endGo_end (l : List Int) (k : Nat) (h : ¬ k < l.length) : endGo l k = (l.length, false) := by rw [endGo, dif_neg h]
end Go.Proofs.YtdmbfngenffcaaaGreat
namespace Go.Proofs.YtdmbfngenffcaaaGreat
open Go.RowKit Go.Lib
theorem findF_le (l : List Int) (k t : Nat) (bs : List UInt8) (j : Nat) (h : findF l k t bs = some j) : k ≤ j ∧ j < t + 1 - bs.length := by
  rw [findF, List.find?_range'_eq_some] at h
  have := List.mem_range'_1.1 h.2.1
  omega
theorem upToF_range (l : List Int) (kd k skip : Nat) (bs : List UInt8) (hk : k < l.length) (hb : 0 < bs.length) : k < (upToF l kd k skip bs).2.1 ∧ (upToF l kd k skip bs).2.1 ≤ l.length := by
  unfold upToF
  cases h : findF l (min (k + skip) l.length) l.length bs with
  | none => simp only; omega
  | some j =>
    have := findF_le l _ _ bs j h
    simp only; omega
def declF (l : List Int) (k : Nat) : Nat × Bool :=
  if startsF l k [60, 33, 45, 45] = true then ((upToF l 4 k 4 [45, 45, 62]).2.1, (upToF l 4 k 4 [45, 45, 62]).2.2)
  else if startsF l k [60, 63] = true then ((upToF l 5 k 2 [63, 62]).2.1, (upToF l 5 k 2 [63, 62]).2.2)
  else if l.getD k 0 = 60 then (min ((angleF l false k).1 + 1) l.length, (angleF l false k).2)
  else (k + 1, true)
theorem declF_range (l : List Int) (k : Nat) (hk : k < l.length) : k < (declF l k).1 ∧ (declF l k).1 ≤ l.length := by
  unfold declF
  split
  · exact upToF_range l 4 k 4 _ hk (by decide)
  · split
    · exact upToF_range l 5 k 2 _ hk (by decide)
    · split
      · have := angleF_range l false l.length k (by omega) (by omega)
        simp only; omega
      · simp only; omega
def subGo (l : List Int) (k : Nat) (ok : Bool) : Nat × Bool :=
  if h : k < l.length ∧ ok = true then (if l[k]'h.1 = 93 then (k + 1, true) else subGo l (declF l k).1 (declF l k).2) else (l.length, false)
termination_by l.length - k
decreasing_by
  have := declF_range l k h.1; omega
theorem subGo_hit (l : List Int) (k : Nat) (h : k < l.length) (hq : l[k] = 93) : subGo l k true = (k + 1, true) := by rw [subGo, dif_pos ⟨h, rfl⟩, if_pos hq]
theorem subGo_next (l : List Int) (k : Nat) (h : k < l.length) (hq : l[k] ≠ 93) : subGo l k true = subGo l (declF l k).1 (declF l k).2 := by
  conv => lhs; rw [subGo]
  rw [dif_pos ⟨h, rfl⟩, if_neg hq]
theorem subGo_end (l : List Int) (k : Nat) (ok : Bool) (h : ¬ (k < l.length ∧ ok = true)) : subGo l k ok = (l.length, false) := by rw [subGo, dif_neg h]
theorem subGo_range (l : List Int) : ∀ (n k : Nat) (ok : Bool), l.length - k ≤ n → k ≤ l.length → (k < (subGo l k ok).1 ∨ (subGo l k ok).1 = l.length) ∧ (subGo l k ok).1 ≤ l.length := by
  intro n
  induction n with
  | zero =>
    intro k ok h hk
    rw [subGo_end l k ok (by omega)]
    simp
  | succ n ih =>
    intro k ok h hk
    by_cases hlt : k < l.length ∧ ok = true
    · obtain ⟨hlt, rfl⟩ := hlt
      by_cases hq : l[k] = 93
      · rw [subGo_hit l k hlt hq]; simp only; omega
      · have := declF_range l k hlt
        have := ih (declF l k).1 (declF l k).2 (by omega) (by omega)
        rw [subGo_next l k hlt hq]; omega
    · rw [subGo_end l k ok hlt]; simp
def subF (l : List Int) (k : Nat) : Nat × Bool := subGo l (k + 1) true
end Go.Proofs.YtdmbfngenffcaaaGreat
namespace Go.Proofs.YtdmbfngenffcaaaGreat
open Go.RowKit Go.Lib
theorem subF_range (l : List Int) (k : Nat) (hk : k < l.length) : k < (subF l k).1 ∧ (subF l k).1 ≤ l.length := by
  have := subGo_range l l.length (k + 1) true (by omega) (by omega)
  unfold subF; omega
def docGo (l : List Int) (k : Nat) (ok : Bool) : Nat × Bool :=
  if h : k < l.length ∧ ok = true then
    (if l[k]'h.1 = 62 then (k + 1, true) else if isQuo (l[k]'h.1) then docGo l (quotedF l k).1 (quotedF l k).2 else if l[k]'h.1 = 91 then docGo l (subF l k).1 (subF l k).2 else docGo l (k + 1) true)
  else (l.length, false)
termination_by l.length - k
decreasing_by
  · have := quotedF_gt l k h.1; omega
  · have := subF_range l k h.1; omega
  · omega
theorem docGo_end (l : List Int) (k : Nat) (ok : Bool) (h : ¬ (k < l.length ∧ ok = true)) : docGo l k ok = (l.length, false) := by rw [docGo, dif_neg h]
theorem docGo_hit (l : List Int) (k : Nat) (h : k < l.length) (hq : l[k] = 62) : docGo l k true = (k + 1, true) := by rw [docGo, dif_pos ⟨h, rfl⟩, if_pos hq]
theorem docGo_quo (l : List Int) (k : Nat) (h : k < l.length) (h1 : l[k] ≠ 62) (hq : isQuo l[k] = true) : docGo l k true = docGo l (quotedF l k).1 (quotedF l k).2 := by
  conv => lhs; rw [docGo]
  rw [dif_pos ⟨h, rfl⟩, if_neg h1, if_pos hq]
theorem docGo_sub (l : List Int) (k : Nat) (h : k < l.length) (hq : l[k] = 91) : docGo l k true = docGo l (subF l k).1 (subF l k).2 := by
  conv => lhs; rw [docGo]
  rw [dif_pos ⟨h, rfl⟩, if_neg (by rw [hq]; decide), if_neg (by rw [hq]; decide), if_pos hq]
theorem docGo_next (l : List Int) (k : Nat) (h : k < l.length) (h1 : l[k] ≠ 62) (h2 : isQuo l[k] = false) (h3 : l[k] ≠ 91) : docGo l k true = docGo l (k + 1) true := by
  conv => lhs; rw [docGo]
  rw [dif_pos ⟨h, rfl⟩, if_neg h1, if_neg (by simp [h2]), if_neg h3]
def docTF (l : List Int) (k : Nat) : Nat × Nat × Bool := (7, (docGo l (k + 9) true).1, (docGo l (k + 9) true).2)
def markupF (l : List Int) (k : Nat) : Nat × Nat × Bool :=
  if startsF l k [60, 33, 45, 45] = true then upToF l 4 k 4 [45, 45, 62]
  else if startsF l k [60, 33, 91, 67, 68, 65, 84, 65, 91] = true then upToF l 6 k 9 [93, 93, 62]
  else if startsF l k [60, 63] = true then upToF l 5 k 2 [63, 62]
  else if startsF l k [60, 33, 68, 79, 67, 84, 89, 80, 69] = true then docTF l k
  else if startsF l k [60, 47] = true then endTF l k
  else if 0 < leadF l (k + 1) then startTF l k
  else (11, k + 1, false)
def isPlain (r : Int) : Bool := r != 60 && (r != 38 && r != -1)
def nextTF (l : List Int) (k : Nat) : Nat × Nat × Bool :=
  if l.getD k 0 = 60 then markupF l k else if l.getD k 0 = 38 then refF l k else if l.getD k 0 = -1 then (11, k + 1, false)
  else (1, k + ((l.drop k).takeWhile isPlain).length, true)
end Go.Proofs.YtdmbfngenffcaaaGreat
namespace Go.Proofs.YtdmbfngenffcaaaGreat
open Go.RowKit Go.Lib
end Go.Proofs.YtdmbfngenffcaaaGreat
namespace Go.Proofs.YtdmbfngenffcaaaGreat
open Go.RowKit Go.Lib
end Go.Proofs.YtdmbfngenffcaaaGreat
namespace Go.Proofs.YtdmbfngenffcaaaGreat
open Go.RowKit Go.Lib
theorem starts_fits2 (l : List Int) (k : Nat) (bs : List UInt8) (hk : k ≤ l.length) (h : startsF l k bs = true) : k + bs.length ≤ l.length := by
  by_cases hn : l.length < k + bs.length
  · rw [starts_short l k bs hn hk] at h; cases h
  · omega
set_option maxHeartbeats 400000 in
set_option maxRecDepth 100000 in
theorem LPlain_any (r : Int) (w : World) : Calls Tryz.prog 110 #[.int .i32 r] w fun e w' => e = .returned (.bool (isPlain r)) ∧ w = w' := by
  by_cases h1 : r = 60
  · subst h1
    go_enter Tryz.func110, Tryz.ntmps110
    go_wp2
    go_ret
    exact ⟨rfl, rfl⟩
  · have h1b : (r != 60) = true := by simpa using h1
    by_cases h2 : r = 38
    · subst h2
      clear h1
      go_enter Tryz.func110, Tryz.ntmps110
      go_wp2
      go_ret
      exact ⟨rfl, rfl⟩
    · have h2b : (r != 38) = true := by simpa using h2
      have HE : Hid (isPlain r = (r != -1)) := by rw [Hid, isPlain, h1b, h2b, Bool.true_and, Bool.true_and]
      clear h1 h2
      go_enter Tryz.func110, Tryz.ntmps110
      go_wp2
      go_ret
      exact ⟨ret_bool HE.out.symm, rfl⟩
theorem LPlain_ok (w : World) : PredOk Tryz.prog 110 #[] isPlain w := fun W r _ => (LPlain_any r W).mono fun _ _ ⟨h1, h2⟩ => ⟨h1, h2 ▸ Below.refl _ _⟩
end Go.Proofs.YtdmbfngenffcaaaGreat
namespace Go.Proofs.YtdmbfngenffcaaaGreat
open Go.RowKit Go.Lib
theorem endGo_range (l : List Int) : ∀ (n k : Nat), l.length - k ≤ n → k ≤ l.length → k ≤ (endGo l k).1 ∧ (endGo l k).1 ≤ l.length := by
  intro n
  induction n with
  | zero =>
    intro k h hk
    rw [endGo_end l k (by omega)]
    simp only; omega
  | succ n ih =>
    intro k h hk
    by_cases hlt : k < l.length
    · by_cases h1 : l[k] = 62
      · rw [endGo_gt l k hlt h1]; simp only; omega
      · by_cases h2 : l[k] = 60
        · rw [endGo_lt l k hlt h2]; simp only; omega
        · have := ih (k + 1) (by omega) (by omega)
          rw [endGo_next l k hlt h1 h2]; omega
    · rw [endGo_end l k hlt]; simp only; omega
theorem docGo_range (l : List Int) : ∀ (n k : Nat) (ok : Bool), l.length - k ≤ n → k ≤ l.length → k ≤ (docGo l k ok).1 ∧ (docGo l k ok).1 ≤ l.length := by
  intro n
  induction n with
  | zero =>
    intro k ok h hk
    rw [docGo_end l k ok (by omega)]
    simp only; omega
  | succ n ih =>
    intro k ok h hk
    by_cases hlt : k < l.length ∧ ok = true
    · obtain ⟨hlt, rfl⟩ := hlt
      by_cases h1 : l[k] = 62
      · rw [docGo_hit l k hlt h1]; simp only; omega
      · cases h2 : isQuo l[k] with
        | true =>
          have := quotedF_gt l k hlt
          have := ih (quotedF l k).1 (quotedF l k).2 (by omega) (by omega)
          rw [docGo_quo l k hlt h1 h2]; omega
        | false =>
          by_cases h3 : l[k] = 91
          · have := subF_range l k hlt
            have := ih (subF l k).1 (subF l k).2 (by omega) (by omega)
            rw [docGo_sub l k hlt h3]; omega
          · have := ih (k + 1) true (by omega) (by omega)
            rw [docGo_next l k hlt h1 h2 h3]; omega
    · rw [docGo_end l k ok hlt]; simp only; omega
theorem markupF_range (l : List Int) (k : Nat) (hk : k < l.length) : k < (markupF l k).2.1 ∧ (markupF l k).2.1 ≤ l.length := by
  unfold markupF
  split
  · exact upToF_range l _ k _ _ hk (by decide)
  · split
    · exact upToF_range l _ k _ _ hk (by decide)
    · split
      · exact upToF_range l _ k _ _ hk (by decide)
      · split
        · rename_i h
          have h9 := starts_fits2 l k _ (by omega) h
          have h9 : k + 9 ≤ l.length := by simpa using h9
          have := docGo_range l l.length (k + 9) true (by omega) (by omega)
          unfold docTF; simp only; omega
        · split
          · rename_i h
            have h2 := starts_fits2 l k _ (by omega) h
            have h2 : k + 2 ≤ l.length := by simpa using h2
            have := endGo_range l l.length (k + 2) (by omega) (by omega)
            unfold endTF; simp only; omega
          · split
            · have h := angleF_range l true l.length (k + 1) (by omega) (by omega)
              unfold startTF
              split
              · simp only; omega
              · rename_i hb
                have := h.2.2 (by simpa using hb)
                split <;> (simp only; omega)
            · simp only; omega
theorem nextTF_range (l : List Int) (k : Nat) (hk : k < l.length) : k < (nextTF l k).2.1 ∧ (nextTF l k).2.1 ≤ l.length := by
  unfold nextTF
  rw [getD_at hk]
  split
  · exact markupF_range l k hk
  · split
    · exact ⟨refF_pos l k, refF_le l k hk⟩
    · split
      · simp only; omega
      · rename_i h1 h2 h3
        have hp : isPlain l[k] = true := by simp [isPlain, h1, h2, h3]
        have hs := (List.takeWhile_sublist isPlain (l := l.drop k)).length_le
        rw [List.length_drop] at hs
        rw [List.drop_eq_getElem_cons hk, List.takeWhile_cons, hp] at hs ⊢
        simp only [if_true, List.length_cons] at hs ⊢
        omega
def tokensGo (l : List Int) (k : Nat) : List ((Nat × Nat × Bool) × Nat) := if h : k < l.length then (nextTF l k, k) :: tokensGo l (nextTF l k).2.1 else []
termination_by l.length - k
decreasing_by
  have := nextTF_range l k h; omega
theorem tokensGo_cons (l : List Int) (k : Nat) (h : k < l.length) : tokensGo l k = (nextTF l k, k) :: tokensGo l (nextTF l k).2.1 := by
  conv => lhs; rw [tokensGo]
  rw [dif_pos h]
theorem tokensGo_nil (l : List Int) (k : Nat) (h : ¬ k < l.length) : tokensGo l k = [] := by rw [tokensGo, dif_neg h]
end Go.Proofs.YtdmbfngenffcaaaGreat
namespace Go.Proofs.YtdmbfngenffcaaaGreat
open Go.RowKit
def isSpaceR (r : Int) : Bool := r == 9 || r == 10 || r == 13 || r == 32
theorem isSpace_eq (r : Int) : isSpaceR r = isSpace r := by
  unfold isSpaceR isSpace; cases (r == 9) <;> cases (r == 10) <;> cases (r == 13) <;> cases (r == 32) <;> rfl
set_option maxHeartbeats 400000 in
theorem RSpace_any (r : Int) (w : World) : Calls Tryz.prog 40 #[.int .i32 r] w fun e w' => e = .returned (.bool (isSpace r)) ∧ w = w' := by
  rw [← isSpace_eq]
  go_enter Tryz.func40, Tryz.ntmps40
  go_wp2
  all_goals (go_ret; exact ⟨ret_bool (by simp [isSpaceR, *]), rfl⟩)
end Go.Proofs.YtdmbfngenffcaaaGreat
namespace Go.Proofs.YtdmbfngenffcaaaGreat
open Go.RowKit Go.Lib
theorem indexByte_has (c : UInt8) : ∀ l : List UInt8, (0 ≤ Lib.indexByte l c) ↔ l.contains c = true
  | [] => by simp [Lib.indexByte]
  | b :: l => by
    have ih := indexByte_has c l
    have hg := Lib.indexByte_ge l c
    unfold Lib.indexByte
    by_cases hb : b = c
    · subst hb; simp
    · rw [if_neg (by simpa using hb)]
      simp only [List.contains_cons]
      rw [show (c == b) = false by simpa using fun h => hb h.symm, Bool.false_or, ← ih]
      split
      · rename_i h; have := beq_iff_eq.1 h; omega
      · rename_i h; have h : ¬ Lib.indexByte l c = -1 := by simpa using h
        omega
set_option maxHeartbeats 1000000 in
set_option maxRecDepth 100000 in
theorem IndexByteS_any (s : ByteArray) (c : Int) (w : World) :
    Calls Tryz.prog 101 #[.string s, .int .u8 c] w fun e w' => e = .returned (.int .i64 (Lib.indexByte s.data.toList c.toNat.toUInt8)) ∧ w = w' := by
  go_enter Tryz.func101, Tryz.ntmps101
  go_wp2
  rw [run_callFunc_extern Tryz.func107 (by kernel_rfl) (by kernel_rfl) (by kernel_rfl) (e := Extern.BytealgIndexByte.indexByte) (by kernel_rfl), Lib.run_indexByteString]
  simp only [Result.andThen]
  rw [Oper.upon_value]
  go_wp2
  go_ret
  exact ⟨rfl, rfl⟩
set_option maxHeartbeats 2000000 in
set_option maxRecDepth 100000 in
theorem IndexLite_any (s : ByteArray) (c : UInt8) (w : World) :
    Calls Tryz.prog 106 #[.string s, .string ⟨#[c]⟩] w fun e w' => ∃ k : Int, e = .returned (.int .i64 k) ∧ (0 ≤ k ↔ s.data.toList.contains c = true) ∧ w = w' := by
  have HI := fun W => Lib.hid (IndexByteS_any s c.toNat W)
  have hc : ((c.toNat : Int)).toNat.toUInt8 = c := by simp
  rw [hc] at HI
  have HX := Lib.hid (indexByte_has c s.data.toList)
  have HS := Lib.hid (show ([c] == s.toList) = true → (0 ≤ (0 : Int) ↔ s.data.toList.contains c = true) from fun h => by
    have e : s.data.toList = [c] := by rw [← ByteArray.toList_eq]; exact (beq_iff_eq.1 h).symm
    rw [e]; simp)
  generalize Lib.indexByte s.data.toList c = q at HI HX
  go_enter Tryz.func106, Tryz.ntmps106
  go_wp2_with (go_at_call 101; refine (HI _).out.mono ?_; rintro e w' ⟨rfl, rfl⟩)
  · have h : ([c] == s.toList) = true := by assumption
    go_ret
    exact ⟨0, rfl, HS.out h, rfl⟩
  · go_ret
    exact ⟨q, rfl, HX.out, rfl⟩
set_option maxHeartbeats 1000000 in
set_option maxRecDepth 100000 in
theorem IndexStr_any (s : ByteArray) (c : UInt8) (w : World) :
    Calls Tryz.prog 100 #[.string s, .string ⟨#[c]⟩] w fun e w' => ∃ k : Int, e = .returned (.int .i64 k) ∧ (0 ≤ k ↔ s.data.toList.contains c = true) ∧ w = w' := by
  have HI := fun W => Lib.hid (IndexLite_any s c W)
  go_enter Tryz.func100, Tryz.ntmps100
  go_wp2_with fail
  refine (HI _).out.mono ?_
  rintro e w' ⟨k, rfl, hk, rfl⟩
  have HK := Lib.hid hk
  clear hk
  go_wp2
  go_ret
  exact ⟨k, rfl, HK.out, rfl⟩
set_option maxHeartbeats 1000000 in
set_option maxRecDepth 100000 in
theorem ContainsStr_any (s : ByteArray) (c : UInt8) (w : World) :
    Calls Tryz.prog 90 #[.string s, .string ⟨#[c]⟩] w fun e w' => e = .returned (.bool (s.data.toList.contains c)) ∧ w = w' := by
  have HI := fun W => Lib.hid (IndexStr_any s c W)
  go_enter Tryz.func90, Tryz.ntmps90
  go_wp2_with fail
  refine (HI _).out.mono ?_
  rintro e w' ⟨k, rfl, hk, rfl⟩
  have HK := Lib.hid hk
  clear hk
  go_wp2
  go_ret
  refine ⟨ret_bool ?_, rfl⟩
  rw [Bool.eq_iff_iff, ← HK.out, decide_eq_true_iff]
end Go.Proofs.YtdmbfngenffcaaaGreat
namespace Go.Proofs.YtdmbfngenffcaaaGreat
open Go.RowKit Go.Lib
end Go.Proofs.YtdmbfngenffcaaaGreat
namespace Go.Proofs.YtdmbfngenffcaaaGreat
open Go.RowKit Go.Lib
end Go.Proofs.YtdmbfngenffcaaaGreat
namespace Go.Proofs.YtdmbfngenffcaaaGreat
open Go.RowKit Go.Lib
set_option maxRecDepth 100000 in
theorem NotAmp_any (r : Int) (w : World) : Calls Tryz.prog 93 #[.int .i32 r] w fun e w' => e = .returned (.bool (notAmp r)) ∧ w = w' := by
  go_enter Tryz.func93, Tryz.ntmps93
  go_wp2
  go_ret
  exact ⟨rfl, rfl⟩
theorem NotAmp_ok (w : World) : PredOk Tryz.prog 93 #[] notAmp w := fun W r _ => (NotAmp_any r W).mono fun _ _ ⟨h1, h2⟩ => ⟨h1, h2 ▸ Below.refl _ _⟩
end Go.Proofs.YtdmbfngenffcaaaGreat
