/-
  A text of runes held against a text of ASCII bytes. Plain lemmas.
-/
import Derived.Test.YtbbplpmaknaadaaStr
namespace Go.Proofs.Ytbbplpmaknaadaa
open Go.RowKit

def enc8 (r : Int) : List UInt8 := (Utf8.encode r).data.toList

theorem foldl_bytes (l : List Int) : ∀ s : ByteArray, (l.foldl (fun r n => r ++ Utf8.encode n) s).data.toList = s.data.toList ++ l.flatMap enc8 := by
  induction l with
  | nil => intro s; simp
  | cons a t ih =>
    intro s
    rw [List.foldl_cons, ih]
    simp [enc8, ByteArray.data_append]
theorem runesBytes_toList (l : List Int) : (runesBytes l).data.toList = l.flatMap enc8 := by
  rw [runesBytes, foldl_bytes]; rfl

theorem enc8_small (r : Int) (h0 : 0 ≤ r) (h1 : r < 128) : enc8 r = [UInt8.ofNat r.toNat] := by
  have hv : Utf8.valid r = true := by simp [Utf8.valid]; omega
  unfold enc8 Utf8.encode
  simp only [hv, if_true]
  rw [if_pos (by omega)]

theorem enc8_big (r : Int) (h : ¬ (0 ≤ r ∧ r < 128)) : ∃ a t, enc8 r = a :: t ∧ 128 ≤ a.toNat := by
  unfold enc8 Utf8.encode
  by_cases hv : Utf8.valid r = true
  · have hr : 0 ≤ r ∧ r ≤ 1114111 := by simp [Utf8.valid] at hv; omega
    simp only [hv, if_true]
    rw [if_neg (by omega)]
    split
    · exact ⟨_, _, rfl, by rw [UInt8.toNat_ofNat']; omega⟩
    · split
      · exact ⟨_, _, rfl, by rw [UInt8.toNat_ofNat']; omega⟩
      · exact ⟨_, _, rfl, by rw [UInt8.toNat_ofNat']; omega⟩
  · have hv' : Utf8.valid r = false := by simpa using hv
    simp only [hv', Bool.false_eq_true, if_false]
    exact ⟨239, [191, 189], by decide, by decide⟩

theorem runes_ascii (l : List Int) (bs : List UInt8) (hb : ∀ b ∈ bs, b.toNat < 128) : l.flatMap enc8 = bs ↔ l = bs.map fun b => (b.toNat : Int) := by
  induction l generalizing bs with
  | nil => cases bs <;> simp
  | cons a t ih =>
    by_cases h : 0 ≤ a ∧ a < 128
    · rw [List.flatMap_cons, enc8_small a h.1 h.2]
      cases bs with
      | nil => simp
      | cons b r =>
        have := ih r (fun x hx => hb x (by simp [hx]))
        simp only [List.cons_append, List.nil_append, List.cons.injEq, List.map_cons]
        rw [this]
        have hbb := hb b (by simp)
        constructor
        · rintro ⟨h1, h2⟩
          refine ⟨?_, h2⟩
          have := congrArg UInt8.toNat h1
          rw [UInt8.toNat_ofNat'] at this
          omega
        · rintro ⟨h1, h2⟩
          refine ⟨?_, h2⟩
          apply UInt8.toNat_inj.1
          rw [UInt8.toNat_ofNat']
          omega
    · obtain ⟨x, y, hxy, hx⟩ := enc8_big a h
      rw [List.flatMap_cons, hxy]
      cases bs with
      | nil => simp
      | cons b r =>
        have hbb := hb b (by simp)
        simp only [List.cons_append, List.cons.injEq, List.map_cons]
        constructor
        · rintro ⟨h1, _⟩
          subst h1
          omega
        · rintro ⟨h1, _⟩
          omega

theorem bytes_eq_iff (x : ByteArray) (bs : List UInt8) : x = ⟨bs.toArray⟩ ↔ x.data.toList = bs := by
  constructor
  · rintro rfl; simp
  · intro h
    rcases x with ⟨⟨d⟩⟩
    simp at h
    subst h
    rfl

theorem runes_is (l : List Int) (bs : List UInt8) (hb : ∀ b ∈ bs, b.toNat < 128) : runesBytes l = ⟨bs.toArray⟩ ↔ l = bs.map fun b => (b.toNat : Int) := by
  rw [bytes_eq_iff, runesBytes_toList, runes_ascii l bs hb]

/-- The walk's own test on texts. -/
theorem runes_beq (l : List Int) (bs : List UInt8) (hb : ∀ b ∈ bs, b.toNat < 128) : ((runesBytes l).toList == bs) = decide (l = bs.map fun b => (b.toNat : Int)) := by
  rw [ByteArray.toList_eq, runesBytes_toList, Bool.eq_iff_iff, beq_iff_eq, decide_eq_true_iff, runes_ascii l bs hb]

end Go.Proofs.Ytbbplpmaknaadaa
