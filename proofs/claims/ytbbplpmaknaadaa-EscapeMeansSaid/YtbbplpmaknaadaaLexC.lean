/-
  Layer 16 (dtd): in, chars; May (09); slices.Equal at runes. Cuts of a row of runes.
-/
import Derived.Test.YtbbplpmaknaadaaLexB
import Derived.Test.YtbbplpmaknaadaaEscB
namespace Go.Proofs.Ytbbplpmaknaadaa
open Go.RowKit Go.Lib

set_option maxRecDepth 100000 in
theorem Rd.runesLH {w : World} {S : Nat → Prop} {n c : Nat} {A : Option Addr} {l : List Int} (h : Rd w S 1 A n c (rc l)) {j k : Nat} (hj : j ≤ k) (hk : k ≤ n) :
    ∃ A', Rd w S 1 A' (k - j) (c - j) (rc ((l.drop j).take (k - j))) ∧ ∀ W, (Instr.slice 22 (.slice A n c) (some (.int .i64 j)) (some (.int .i64 k)) none).run Try.prog W = .ok (.slice A' (k - j) (c - j)) W := by
  obtain ⟨A', hr, hs⟩ := h.cutLH Try.underlying22 (fun _ => by simp [go_sem]) (P := Try.prog) hj hk
  exact ⟨A', by simpa [rc, List.map_take, List.map_drop] using hr, hs⟩
set_option maxRecDepth 100000 in
theorem Rd.runesH {w : World} {S : Nat → Prop} {n c : Nat} {A : Option Addr} {l : List Int} (h : Rd w S 1 A n c (rc l)) {k : Nat} (hk : k ≤ n) :
    ∃ A', Rd w S 1 A' k c (rc (l.take k)) ∧ ∀ W, (Instr.slice 22 (.slice A n c) none (some (.int .i64 k)) none).run Try.prog W = .ok (.slice A' k c) W := by
  obtain ⟨A', hr, hs⟩ := h.cutH Try.underlying22 (fun _ => by simp [go_sem]) (P := Try.prog) hk
  exact ⟨A', by simpa [rc, List.map_take] using hr, hs⟩
set_option maxRecDepth 100000 in
theorem Rd.runesL {w : World} {S : Nat → Prop} {n c : Nat} {A : Option Addr} {l : List Int} (h : Rd w S 1 A n c (rc l)) {k : Nat} (hk : k ≤ n) :
    ∃ A', Rd w S 1 A' (n - k) (c - k) (rc (l.drop k)) ∧ ∀ W, (Instr.slice 22 (.slice A n c) (some (.int .i64 k)) none none).run Try.prog W = .ok (.slice A' (n - k) (c - k)) W := by
  obtain ⟨A', hr, hs⟩ := h.cutL Try.underlying22 (fun _ => by simp [go_sem]) (P := Try.prog) hk
  exact ⟨A', by simpa [rc, List.map_drop] using hr, hs⟩

/-- are there such runes? -/
def mayF (n : Nat) (a b : Int) : Bool := decide (0 ≤ a) && (decide (a ≤ b) && decide (b ≤ n))

set_option maxHeartbeats 1000000 in
set_option maxRecDepth 100000 in
theorem In_any (A : Option Addr) (n c : Nat) (a b : Int) (w : World) :
    Calls Try.prog 84 #[.slice A n c, .int .i64 a, .int .i64 b] w fun e w' => e = .returned (.bool (mayF n a b)) ∧ w = w' := by
  by_cases h1 : 0 ≤ a
  · have h1' : a ≥ 0 := h1
    by_cases h2 : a ≤ b
    · have h2' : b ≥ a := h2
      go_enter Try.func84, Try.ntmps84
      go_wp2
      go_ret
      exact ⟨ret_bool (by rw [mayF, decide_eq_true h1, decide_eq_true h2]; rfl), rfl⟩
    · have h2' : ¬ b ≥ a := h2
      have HE : Hid (mayF n a b = false) := by rw [Hid, mayF, decide_eq_true h1, decide_eq_false h2]; rfl
      go_enter Try.func84, Try.ntmps84
      go_wp2
      go_ret
      exact ⟨ret_bool HE.out.symm, rfl⟩
  · have h1' : ¬ a ≥ 0 := h1
    have HE : Hid (mayF n a b = false) := by rw [Hid, mayF, decide_eq_false h1]; rfl
    go_enter Try.func84, Try.ntmps84
    go_wp2
    go_ret
    exact ⟨ret_bool HE.out.symm, rfl⟩

set_option maxHeartbeats 1000000 in
set_option maxRecDepth 100000 in
theorem RMay_any (A : Option Addr) (n c : Nat) (a b : Int) (w : World) :
    Calls Try.prog 87 #[.slice A n c, .int .i64 a, .int .i64 b] w fun e w' => e = .returned (.bool (mayF n a b)) ∧ w = w' := by
  by_cases h1 : 0 ≤ a
  · have h1' : a ≥ 0 := h1
    by_cases h2 : a ≤ b
    · have h2' : b ≥ a := h2
      go_enter Try.func87, Try.ntmps87
      go_wp2
      go_ret
      exact ⟨ret_bool (by rw [mayF, decide_eq_true h1, decide_eq_true h2]; rfl), rfl⟩
    · have h2' : ¬ b ≥ a := h2
      have HE : Hid (mayF n a b = false) := by rw [Hid, mayF, decide_eq_true h1, decide_eq_false h2]; rfl
      go_enter Try.func87, Try.ntmps87
      go_wp2
      go_ret
      exact ⟨ret_bool HE.out.symm, rfl⟩
  · have h1' : ¬ a ≥ 0 := h1
    have HE : Hid (mayF n a b = false) := by rw [Hid, mayF, decide_eq_false h1]; rfl
    go_enter Try.func87, Try.ntmps87
    go_wp2
    go_ret
    exact ⟨ret_bool HE.out.symm, rfl⟩

set_option maxHeartbeats 1000000 in
set_option maxRecDepth 100000 in
theorem RChars16_any (S : Nat → Prop) (A : Option Addr) (n c : Nat) (l : List Int) (w : World) (hr : Rd w S 1 A n c (rc l)) (_hn9 : l.length ≤ 1000000000) :
    Calls Try.prog 88 #[.slice A n c] w fun e w' => e = .returned (.bool (l.all isChar)) ∧ w = w' := by
  obtain rfl := hr.rlen
  have hle := hr.le
  have hmx : c ≤ 9223372036854775807 := hr.max
  have HR := Lib.hid hr
  clear hr
  go_enter Try.func88, Try.ntmps88
  go_wp2
  go_loopw [7] (fun i wr => wr = w ∧ ∃ (k : Nat), k ≤ l.length ∧ i = .int .i64 k ∧ Hid ((l.take k).all isChar = true)) (fun i _ => l.length - (intOf i).toNat)
  case atStart => exact ⟨rfl, 0, Nat.zero_le _, rfl, rfl⟩
  case round =>
    obtain ⟨rfl, k, hk, rfl, HA⟩ := hrel
    by_cases hlt : k < l.length
    · obtain ⟨b, u, rfl, hc0⟩ := HR.out.rune hlt
      have HC := fun w => Lib.hid (RChar_any l[k] w)
      cases hq : isChar l[k] with
      | true =>
        have HA2 : Hid ((l.take (k + 1)).all isChar = true) := by rw [Hid, List.take_succ_eq_append_getElem hlt, List.all_append, HA.out]; simp [hq]
        rw [hq] at HC
        generalize l[k] = r at hc0 HC
        clear hq
        go_wp2_with (go_at_call 75; refine (HC _).out.mono ?_; rintro e w' ⟨rfl, rfl⟩)
        go_roundw
        case rel => exact ⟨trivial, k + 1, by omega, by go_num, HA2.out⟩
        case measure => simp [intOf]; omega
      | false =>
        have HE : Hid (l.all isChar = false) := by rw [Hid, List.all_eq_false]; exact ⟨l[k], List.getElem_mem hlt, by simp [hq]⟩
        rw [hq] at HC
        generalize l[k] = r at hc0 HC
        clear hq
        go_wp2_with (go_at_call 75; refine (HC _).out.mono ?_; rintro e w' ⟨rfl, rfl⟩)
        go_ret
        exact ⟨ret_bool HE.out.symm, rfl⟩
    · have HE : Hid (l.all isChar = true) := by have e : l.take k = l := List.take_of_length_le (by omega)
                                                rw [Hid, ← HA.out, e]
      go_wp2
      go_ret
      exact ⟨ret_bool HE.out.symm, rfl⟩


set_option maxHeartbeats 1000000 in
set_option maxRecDepth 100000 in
theorem Equal_any (S : Nat → Prop) (A : Option Addr) (n c : Nat) (l : List Int) (S2 : Nat → Prop) (A2 : Option Addr) (n2 c2 : Nat) (l2 : List Int) (w : World) (hr : Rd w S 1 A n c (rc l)) (hr2 : Rd w S2 1 A2 n2 c2 (rc l2)) :
    Calls Try.prog 68 #[.slice A n c, .slice A2 n2 c2] w fun e w' => e = .returned (.bool (l == l2)) ∧ Below w.heap.size w w' := by
  obtain rfl := hr.rlen
  obtain rfl := hr2.rlen
  have hle := hr.le
  have hmx : c ≤ 9223372036854775807 := hr.max
  have hle2 := hr2.le
  have hmx2 : c2 ≤ 9223372036854775807 := hr2.max
  have HR := Lib.hid hr
  have HR2 := Lib.hid hr2
  clear hr hr2
  by_cases hl : l.length = l2.length
  · have hli : (l.length : Int) = (l2.length : Int) := by omega
    have hlb : ((l.length : Int) != (l2.length : Int)) = false := by rw [hli]; simp
    go_enter Try.func68, Try.ntmps68
    go_wp2
    go_loopw [13] (fun i wr => ∃ (j : Nat), j ≤ l.length ∧ i = .int .i64 j ∧ Hid (l.take j = l2.take j) ∧ Hid (Below w.heap.size w wr)) (fun i _ => l.length - (intOf i).toNat)
    case atStart => exact ⟨0, Nat.zero_le _, rfl, rfl, Below.refl _ _⟩
    case round =>
      obtain ⟨j, hj, rfl, HS, HB⟩ := hrel
      by_cases hlt : j < l.length
      · have hlt2 : j < l2.length := by omega
        have hji : (j : Int) < (l.length : Int) := by omega
        have hji2 : (j : Int) < (l2.length : Int) := by omega
        obtain ⟨b, o, rfl, hc0⟩ := (HR.out.below HB.out).rune hlt
        obtain ⟨b2, o2, rfl, hc1⟩ := (HR2.out.below HB.out).rune hlt2
        by_cases hq : l[j] = l2[j]
        · have HS2 : Hid (l.take (j + 1) = l2.take (j + 1)) := by rw [Hid, List.take_succ_eq_append_getElem hlt, List.take_succ_eq_append_getElem hlt2, HS.out, hq]
          have hqb : (l[j] != l2[j]) = false := by simpa using hq
          clear hq
          generalize l[j] = x at hc0 hqb
          generalize l2[j] = y at hc1 hqb
          go_wp2
          go_quiet (fail)
          go_wp2
          go_roundw
          case rel => exact ⟨j + 1, by omega, by go_num, HS2.out, below_drewN HB.out _⟩
          case measure => simp [intOf]; omega
        · have HE : Hid ((l == l2) = false) := by
            rw [Hid, beq_eq_false_iff_ne]
            rintro rfl
            exact hq rfl
          have hqb : (l[j] != l2[j]) = true := by simpa using hq
          clear hq
          generalize l[j] = x at hc0 hqb
          generalize l2[j] = y at hc1 hqb
          go_wp2
          go_quiet (fail)
          go_wp2
          go_ret
          exact ⟨ret_bool HE.out.symm, below_drewN HB.out _⟩
      · have HE : Hid ((l == l2) = true) := by
          have e : j = l.length := by omega
          have := HS.out
          rw [e, List.take_length, hl, List.take_length] at this
          rw [Hid, this, beq_self_eq_true]
        go_wp2
        go_ret
        exact ⟨ret_bool HE.out.symm, HB.out⟩
  · have hlb : ((l.length : Int) != (l2.length : Int)) = true := by simp; omega
    have HE : Hid ((l == l2) = false) := by
      rw [Hid, beq_eq_false_iff_ne]
      rintro rfl
      exact hl rfl
    go_enter Try.func68, Try.ntmps68
    go_wp2
    go_ret
    exact ⟨ret_bool HE.out.symm, Below.refl _ _⟩

end Go.Proofs.Ytbbplpmaknaadaa
