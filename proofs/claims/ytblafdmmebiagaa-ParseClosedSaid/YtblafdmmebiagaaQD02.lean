/-
  Parts of the proof, joined: ClassB. Conditions: as each theorem says.
-/
import Derived.Test.YtblafdmmebiagaaQD01
namespace Go.Proofs.Ytblafdmmebiagaa
open Go.RowKit
def startSp : List (Int × Int) := [(97, 122), (65, 90), (58, 58), (95, 95), (0xC0, 0xD6), (0xD8, 0xF6), (0xF8, 0x2FF), (0x370, 0x37D),
  (0x37F, 0x1FFF), (0x200C, 0x200D), (0x2070, 0x218F), (0x2C00, 0x2FEF), (0x3001, 0xD7FF), (0xF900, 0xFDCF), (0xFDF0, 0xFFFD), (0x10000, 0xEFFFF)]
def moreSp : List (Int × Int) := [(48, 57), (45, 46), (0xB7, 0xB7), (0x300, 0x36F), (0x203F, 0x2040)]
def isNameStart (r : Int) : Bool := inSp r startSp
def isNameChar (r : Int) : Bool := isNameStart r || inSp r moreSp
set_option maxHeartbeats 400000 in
set_option maxRecDepth 100000 in
theorem NameStart_any (r : Int) (w : World) : Calls Try.prog 100 #[.int .i32 r] w fun e w' => e = .returned (.bool (isNameStart r)) ∧ Below w.heap.size w w' := by
  go_enter Try.func100, Try.ntmps100
  go_wp2_with fail
  refine (in_any _ _ 16 16 r startSp _ (Rd.lit w _ _ 2 16 rfl (by decide)) rfl).mono ?_
  rintro e w' ⟨rfl, hb⟩
  go_wp2
  go_ret
  exact ⟨rfl, below_all ((Below.refl _ _).alloc (Nat.le_refl _) _) hb⟩
set_option maxHeartbeats 400000 in
set_option maxRecDepth 100000 in
theorem NameChar_any (r : Int) (w : World) : Calls Try.prog 101 #[.int .i32 r] w fun e w' => e = .returned (.bool (isNameChar r)) ∧ Below w.heap.size w w' := by
  have HN := Lib.hid (NameStart_any r w)
  cases hq : isNameStart r with
  | true =>
    rw [hq] at HN
    have HI : Hid (isNameChar r = true) := by rw [Hid, isNameChar, hq]; rfl
    clear hq
    go_enter Try.func101, Try.ntmps101
    go_wp2_with (go_at_call 100; refine HN.out.mono ?_; rintro e w' ⟨rfl, hb⟩)
    go_ret
    exact ⟨ret_bool HI.out.symm, hb⟩
  | false =>
    rw [hq] at HN
    have HI : Hid (isNameChar r = inSp r moreSp) := by rw [Hid, isNameChar, hq]; rfl
    clear hq
    go_enter Try.func101, Try.ntmps101
    go_wp2_with (go_at_call 100; refine HN.out.mono ?_; rintro e w' ⟨rfl, hb⟩)
    refine (in_any _ _ 5 5 r moreSp _ (Rd.lit w' _ _ 2 5 rfl (by decide)) rfl).mono ?_
    rintro e w2 ⟨rfl, hb2⟩
    go_wp2
    go_ret
    exact ⟨ret_bool HI.out.symm, below_all (hb.alloc hb.size _) hb2⟩
def digitF (r : Int) : Int × Bool := if r < 48 ∨ 57 < r then (0, false) else (r - 48, true)
def hexF (r : Int) : Int × Bool := if 97 ≤ r ∧ r ≤ 102 then (r - 97 + 10, true) else if 65 ≤ r ∧ r ≤ 70 then (r - 65 + 10, true) else digitF r
set_option maxHeartbeats 400000 in
set_option maxRecDepth 100000 in
theorem Digit_any (r : Int) (w : World) : Calls Try.prog 107 #[.int .i32 r] w fun e w' => e = .returned (.tuple #[.int .i64 (digitF r).1, .bool (digitF r).2]) ∧ w = w' := by
  by_cases h1 : r < 48
  · go_enter Try.func107, Try.ntmps107
    go_wp2
    go_ret2
    exact ⟨ret_ib (if_pos (.inl h1)), rfl⟩
  · by_cases h2 : 57 < r
    · go_enter Try.func107, Try.ntmps107
      go_wp2
      go_ret2
      exact ⟨ret_ib (if_pos (.inr h2)), rfl⟩
    · go_enter Try.func107, Try.ntmps107
      go_wp2
      go_ret2
      exact ⟨ret_ib (if_neg (by omega)), rfl⟩
set_option maxHeartbeats 400000 in
set_option maxRecDepth 100000 in
theorem Hex_any (r : Int) (w : World) : Calls Try.prog 108 #[.int .i32 r] w fun e w' => e = .returned (.tuple #[.int .i64 (hexF r).1, .bool (hexF r).2]) ∧ w = w' := by
  have HD := Lib.hid (Digit_any r w)
  by_cases h1 : 97 ≤ r ∧ r ≤ 102
  · obtain ⟨h2, h3⟩ := h1
    go_enter Try.func108, Try.ntmps108
    go_wp2
    go_ret2
    exact ⟨ret_ib (if_pos ⟨h2, h3⟩), rfl⟩
  · by_cases h2 : 65 ≤ r ∧ r ≤ 70
    · obtain ⟨h3, h4⟩ := h2
      have h5 : ¬ 97 ≤ r := by omega
      clear h1
      go_enter Try.func108, Try.ntmps108
      go_wp2
      go_ret2
      exact ⟨ret_ib (by rw [hexF, if_neg (by omega), if_pos ⟨h3, h4⟩]), rfl⟩
    · have HF : Hid (hexF r = digitF r) := by simp [Hid, hexF, h1, h2]
      generalize hexF r = z at HF ⊢
      generalize digitF r = y at HD HF
      by_cases h3 : 97 ≤ r
      · have h4 : ¬ r ≤ 102 := by omega
        have h5 : 65 ≤ r := by omega
        have h6 : ¬ r ≤ 70 := by omega
        clear h1 h2
        go_enter Try.func108, Try.ntmps108
        go_wp2_with (go_at_call 107; refine HD.out.mono ?_; rintro e w' ⟨rfl, rfl⟩)
        go_ret2
        exact ⟨ret_ib HF.out, rfl⟩
      · by_cases h5 : 65 ≤ r
        · have h6 : ¬ r ≤ 70 := by omega
          clear h1 h2
          go_enter Try.func108, Try.ntmps108
          go_wp2_with (go_at_call 107; refine HD.out.mono ?_; rintro e w' ⟨rfl, rfl⟩)
          go_ret2
          exact ⟨ret_ib HF.out, rfl⟩
        · clear h1 h2
          go_enter Try.func108, Try.ntmps108
          go_wp2_with (go_at_call 107; refine HD.out.mono ?_; rintro e w' ⟨rfl, rfl⟩)
          go_ret2
          exact ⟨ret_ib HF.out, rfl⟩
end Go.Proofs.Ytblafdmmebiagaa
