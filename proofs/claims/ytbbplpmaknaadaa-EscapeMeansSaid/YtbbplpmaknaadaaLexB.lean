/-
  Layer 7 (lex): Find; the document's Starts (layer 7), chars (16); in (dtd), May (09). Places and rows of at most 1000000000.
-/
import Derived.Test.YtbbplpmaknaadaaLexA
namespace Go.Proofs.Ytbbplpmaknaadaa
open Go.RowKit Go.Lib

/-- the first place, not below k, at which a row begins with a text that ends not above t -/
def findF (l : List Int) (k t : Nat) (bs : List UInt8) : Option Nat := (List.range' k (t + 1 - bs.length - k)).find? (fun i => startsF l i bs)

theorem findF_hit (l : List Int) (k t : Nat) (bs : List UInt8) (j : Nat) (hk : k ≤ j) (ht : j + bs.length ≤ t) (h : ∀ i, k ≤ i → i < j → startsF l i bs = false) (hj : startsF l j bs = true) : findF l k t bs = some j := by
  rw [findF, List.find?_range'_eq_some]
  exact ⟨hj, List.mem_range'_1.2 ⟨hk, by omega⟩, fun i h1 h2 => by rw [h i h1 h2]; rfl⟩
theorem findF_none (l : List Int) (k t : Nat) (bs : List UInt8) (h : ∀ i, k ≤ i → i + bs.length ≤ t → startsF l i bs = false) : findF l k t bs = none := by
  rw [findF, List.find?_eq_none]
  intro i hi
  have := List.mem_range'_1.1 hi
  rw [h i this.1 (by omega)]
  decide

set_option maxHeartbeats 1000000 in
set_option maxRecDepth 100000 in
theorem LFind_any (S : Nat → Prop) (A : Option Addr) (n c : Nat) (l : List Int) (k t : Nat) (s : ByteArray) (w : World) (hr : Rd w S 1 A n c (rc l)) (hk : k ≤ l.length) (ht : t ≤ l.length) (hk9 : l.length ≤ 1000000000) (hs9 : s.size ≤ 1000000000) :
    Calls Try.prog 86 #[.slice A n c, .int .i64 k, .int .i64 t, .string s] w fun e w' => e = .returned (.tuple #[.int .i64 ((findF l k t s.data.toList).getD 0), .bool (findF l k t s.data.toList).isSome]) ∧ Below w.heap.size w w' := by
  obtain rfl := hr.rlen
  have hle := hr.le
  have hmx : c ≤ 9223372036854775807 := hr.max
  have HR := Lib.hid hr
  clear hr
  have hkl : ¬ (k : Int) > (l.length : Int) := by omega
  have htl : ¬ (t : Int) > (l.length : Int) := by omega
  have hsz : s.data.toList.length = s.size := by simp
  have HS := fun W (j : Nat) (hj : j ≤ l.length) (h : Below w.heap.size w W) => Lib.hid (Starts_any S A l.length c l j s W (HR.out.below h) hj hk9 hs9)
  have HH := Lib.hid (findF_hit l k t s.data.toList)
  have HN := Lib.hid (findF_none l k t s.data.toList)
  generalize findF l k t s.data.toList = q at HH HN ⊢
  go_enter Try.func86, Try.ntmps86
  go_wp2
  go_loopw [10] (fun i wr => ∃ j : Nat, k ≤ j ∧ j ≤ l.length + 1 ∧ i = .int .i64 j ∧ Hid (Below w.heap.size w wr) ∧ Hid (∀ i, k ≤ i → i < j → startsF l i s.data.toList = false)) (fun i _ => l.length + 1 - (intOf i).toNat)
  case atStart => exact ⟨k, Nat.le_refl _, by omega, rfl, Below.refl _ _, fun i h1 h2 => absurd h2 (by omega)⟩
  case round =>
    obtain ⟨j, hj1, hj2, rfl, HB, HJ⟩ := hrel
    by_cases hlt : j + s.size ≤ t
    · have hlt2 : (j : Int) ≤ (t : Int) - (s.size : Int) := by omega
      have HC := HS _ j (by omega) HB.out
      cases hq : startsF l j s.data.toList with
      | true =>
        rw [hq] at HC
        have HE : Hid (q = some j) := HH.out j hj1 (by omega) HJ.out hq
        clear hq
        go_wp2_with (go_at_call 85; refine HC.out.mono ?_; rintro e w' ⟨rfl, hb⟩)
        go_ret2
        rw [HE.out]
        exact ⟨rfl, HB.out.trans (hb.mono HB.out.size)⟩
      | false =>
        rw [hq] at HC
        have HJ2 : Hid (∀ i, k ≤ i → i < j + 1 → startsF l i s.data.toList = false) := fun i h1 h2 => by
          by_cases e : i = j
          · subst e; exact hq
          · exact HJ.out i h1 (by omega)
        clear hq
        go_wp2_with (go_at_call 85; refine HC.out.mono ?_; rintro e w' ⟨rfl, hb⟩)
        go_roundw
        case rel => exact ⟨j + 1, by omega, by omega, by go_num, HB.out.trans (hb.mono HB.out.size), HJ2.out⟩
        case measure => simp [intOf]; omega
    · have hlt2 : ¬ (j : Int) ≤ (t : Int) - (s.size : Int) := by omega
      have HE : Hid (q = none) := HN.out fun i h1 h2 => HJ.out i h1 (by omega)
      go_wp2
      go_ret2
      rw [HE.out]
      exact ⟨rfl, HB.out⟩

def I32 (l : List Int) : Prop := ∀ x ∈ l, -2147483648 ≤ x ∧ x ≤ 2147483647

set_option maxHeartbeats 1000000 in
set_option maxRecDepth 100000 in
theorem RStarts_any (S : Nat → Prop) (A : Option Addr) (n c : Nat) (l : List Int) (k : Nat) (s : ByteArray) (w : World) (hr : Rd w S 1 A n c (rc l)) (hk : k ≤ l.length) (hk9 : l.length ≤ 1000000000) (hs9 : s.size ≤ 1000000000) (hi : I32 l) :
    Calls Try.prog 89 #[.slice A n c, .int .i64 k, .string s] w fun e w' => e = .returned (.bool (startsF l k s.data.toList)) ∧ Below w.heap.size w w' := by
  obtain rfl := hr.rlen
  have hle := hr.le
  have hmx : c ≤ 9223372036854775807 := hr.max
  have HR := Lib.hid hr
  have HI := Lib.hid hi
  clear hr hi
  have hsz : s.data.toList.length = s.size := by simp
  have hkl : ¬ (k : Int) > (l.length : Int) := by omega
  by_cases hshort : l.length < k + s.size
  · have HE := Lib.hid (starts_short l k s.data.toList (by omega) hk)
    have hsh : (s.size : Int) > (l.length : Int) - (k : Int) := by omega
    go_enter Try.func89, Try.ntmps89
    go_wp2
    go_ret
    exact ⟨ret_bool HE.out.symm, Below.refl _ _⟩
  · have hsh : ¬ (s.size : Int) > (l.length : Int) - (k : Int) := by omega
    go_enter Try.func89, Try.ntmps89
    go_wp2
    go_loopw [7] (fun i wr => ∃ j : Nat, j ≤ s.size ∧ i = .int .i64 j ∧ Hid (Below w.heap.size w wr) ∧ Hid (∀ i, i < j → (h1 : i < s.data.toList.length) → (h2 : k + i < l.length) → s.data.toList[i].toNat < 128 ∧ l[k + i] = s.data.toList[i].toNat)) (fun i _ => s.size - (intOf i).toNat)
    case atStart => exact ⟨0, Nat.zero_le _, rfl, Below.refl _ _, fun i h => absurd h (by omega)⟩
    case round =>
      obtain ⟨j, hj, rfl, HB, HJ⟩ := hrel
      by_cases hlt : j < s.size
      · have hlt2 : j < s.data.toList.length := by omega
        have hlt3 : j < s.data.size := hlt
        have hkj : k + j < l.length := by omega
        have hkj' : (k : Int) + (j : Int) < (l.length : Int) := by omega
        obtain ⟨b, o, rfl, hc0⟩ := (HR.out.below HB.out).rune hkj
        have hx : s.data.toList[j] = s.data[j] := by simp
        have hb := (s.data[j]).toNat_lt
        have hw : wrap64 ((s[j]).toNat : Int) = ((s.data[j]).toNat : Int) := by
          show wrap64 ((s.data[j]).toNat : Int) = _
          exact IntWalk.wrap64_in _ (by omega)
        have hri := HI.out _ (List.getElem_mem hkj)
        have HM := Lib.hid (starts_miss l k s.data.toList j hlt2 hkj)
        have HX := Lib.hid hx
        rw [hx] at HM
        have HJ2 : (s.data[j]).toNat < 128 → l[k + j] = (s.data[j]).toNat → Hid (∀ i, i < j + 1 → (h1 : i < s.data.toList.length) → (h2 : k + i < l.length) → s.data.toList[i].toNat < 128 ∧ l[k + i] = s.data.toList[i].toNat) := fun e1 e2 i hi h1 h2 => by
          by_cases e : i = j
          · subst e; rw [HX.out]; exact ⟨e1, e2⟩
          · exact HJ.out i (by omega) h1 h2
        clear hx
        generalize l[k + j] = r at hc0 HM HJ2 hri
        by_cases h128 : (s.data[j]).toNat < 128
        · have hge : ¬ ((s.data[j]).toNat : Int) > 127 := by omega
          have hge3 : decide ((127 : Int) < ((s[j]).toNat : Int)) = false := by show decide ((127 : Int) < ((s.data[j]).toNat : Int)) = false; rw [decide_eq_false_iff_not]; omega
          by_cases hrb : r = (s.data[j]).toNat
          · have HJ3 := HJ2 h128 hrb
            have hn : (r != ((s.data[j]).toNat : Int)) = false := by simpa using hrb
            clear HJ2 HM
            go_wp2
            go_quiet (fail)
            go_wp2
            go_roundw
            case rel => exact ⟨j + 1, by omega, by go_num, below_drewN HB.out _, HJ3.out⟩
            case measure => simp [intOf]; omega
          · have HE : Hid (startsF l k s.data.toList = false) := HM.out fun h => hrb h.2
            have hn : (r != ((s.data[j]).toNat : Int)) = true := by simpa using hrb
            clear HJ2 HM
            go_wp2
            go_quiet (fail)
            go_wp2
            go_ret
            exact ⟨ret_bool HE.out.symm, below_drewN HB.out _⟩
        · have hge : ((s.data[j]).toNat : Int) > 127 := by omega
          have hge3 : decide ((127 : Int) < ((s[j]).toNat : Int)) = true := by show decide ((127 : Int) < ((s.data[j]).toNat : Int)) = true; rw [decide_eq_true_iff]; omega
          have HE : Hid (startsF l k s.data.toList = false) := HM.out fun h => h128 h.1
          clear HJ2 HM
          go_wp2
          go_quiet (fail)
          go_wp2
          go_ret
          exact ⟨ret_bool HE.out.symm, below_drewN HB.out _⟩
      · have HE : Hid (startsF l k s.data.toList = true) := starts_upto l k _ (by omega) fun i h => HJ.out i (by omega) h (by omega)
        go_wp2
        go_ret
        exact ⟨ret_bool HE.out.symm, HB.out⟩

end Go.Proofs.Ytbbplpmaknaadaa
