/-
  Layer 4 (class): the document's own answers are the tables'. For every rune.
-/
import Derived.Test.YtbbplpmaknaadaaClassB
import Derived.Test.YtbbplpmaknaadaaMix
import Derived.Deep.RegionWith
namespace Go.Proofs.Ytbbplpmaknaadaa
open Go.RowKit Go.Lib

def isF (r lo hi : Int) : Bool := decide (lo ≤ r) && decide (r ≤ hi)
def letterF (r : Int) : Bool := isF r 97 122 || isF r 65 90

set_option maxHeartbeats 400000 in
set_option maxRecDepth 100000 in
theorem RIs_any (r lo hi : Int) (w : World) : Calls Try.prog 101 #[.int .i32 r, .int .i32 lo, .int .i32 hi] w fun e w' => e = .returned (.bool (isF r lo hi)) ∧ w = w' := by
  by_cases h : lo ≤ r
  · go_enter Try.func101, Try.ntmps101
    go_wp2
    go_ret
    exact ⟨ret_bool (by simp [isF, h]), rfl⟩
  · go_enter Try.func101, Try.ntmps101
    go_wp2
    go_ret
    exact ⟨ret_bool (by rw [isF, decide_eq_false (by omega)]; rfl), rfl⟩

theorem isF_spec (r lo hi : Int) : isF r lo hi = true ↔ lo ≤ r ∧ r ≤ hi := by simp [isF]
theorem isChar_spec (r : Int) : isChar r = (r == 9 || r == 10 || r == 13 || isF r 32 55295 || isF r 57344 65533 || isF r 65536 1114111) := by
  rw [Bool.eq_iff_iff]; simp [isChar, inSp, charSp, isF]; omega
theorem letter_spec (r : Int) : letterF r = (isF r 97 122 || isF r 65 90) := rfl
theorem start_spec (r : Int) : isNameStart r = (letterF r || r == 58 || r == 95 || (if isF r 192 767 then r != 215 && r != 247 else if isF r 880 8191 then r != 894 else
    isF r 8204 8205 || isF r 8304 8591 || isF r 11264 12271 || isF r 12289 55295 || (isF r 63744 64975 || isF r 65008 65533 || isF r 65536 983039))) := by
  rw [Bool.eq_iff_iff]
  by_cases h1 : isF r 192 767 = true
  · rw [if_pos h1]
    simp [isF] at h1
    simp [isNameStart, inSp, startSp, isF, letterF]; omega
  · rw [if_neg h1]
    simp [isF] at h1
    by_cases h2 : isF r 880 8191 = true
    · rw [if_pos h2]
      simp [isF] at h2
      simp [isNameStart, inSp, startSp, isF, letterF]; omega
    · rw [if_neg h2]
      simp [isF] at h2
      simp [isNameStart, inSp, startSp, isF, letterF]; omega
theorem more_spec (r : Int) : isNameChar r = (isNameStart r || r == 45 || r == 46 || isF r 48 57 || r == 183 || isF r 768 879 || r == 8255 || r == 8256) := by
  rw [Bool.eq_iff_iff]; simp only [isNameChar]; cases isNameStart r <;> simp [inSp, moreSp, isF] <;> omega

set_option maxHeartbeats 1000000 in
set_option maxRecDepth 100000 in
theorem RChar_any (r : Int) (w : World) : Calls Try.prog 75 #[.int .i32 r] w fun e w' => e = .returned (.bool (isChar r)) ∧ w = w' := by
  rw [isChar_spec]
  have HI1 := fun w => Lib.hid (RIs_any r 32 55295 w)
  have HI2 := fun w => Lib.hid (RIs_any r 57344 65533 w)
  have HI3 := fun w => Lib.hid (RIs_any r 65536 1114111 w)
  generalize isF r 32 55295 = b1 at HI1 ⊢
  generalize isF r 57344 65533 = b2 at HI2 ⊢
  generalize isF r 65536 1114111 = b3 at HI3 ⊢
  go_enter Try.func75, Try.ntmps75
  go_wp2_with (first
    | (go_at_call_of 101 (Value.int .i32 32); refine (HI1 _).out.mono ?_; rintro e w' ⟨rfl, rfl⟩)
    | (go_at_call_of 101 (Value.int .i32 57344); refine (HI2 _).out.mono ?_; rintro e w' ⟨rfl, rfl⟩)
    | (go_at_call_of 101 (Value.int .i32 65536); refine (HI3 _).out.mono ?_; rintro e w' ⟨rfl, rfl⟩))
  all_goals
    go_ret
    exact ⟨ret_bool (by first | rfl | simp_all), rfl⟩

set_option maxHeartbeats 1000000 in
set_option maxRecDepth 100000 in
theorem RLetter_any (r : Int) (w : World) : Calls Try.prog 114 #[.int .i32 r] w fun e w' => e = .returned (.bool (letterF r)) ∧ w = w' := by
  rw [letter_spec]
  have HI1 := fun w => Lib.hid (RIs_any r 97 122 w)
  have HI2 := fun w => Lib.hid (RIs_any r 65 90 w)
  generalize isF r 97 122 = b1 at HI1 ⊢
  generalize isF r 65 90 = b2 at HI2 ⊢
  go_enter Try.func114, Try.ntmps114
  go_wp2_with (first
    | (go_at_call_of 101 (Value.int .i32 97); refine (HI1 _).out.mono ?_; rintro e w' ⟨rfl, rfl⟩)
    | (go_at_call_of 101 (Value.int .i32 65); refine (HI2 _).out.mono ?_; rintro e w' ⟨rfl, rfl⟩))
  all_goals
    go_ret
    exact ⟨ret_bool (by first | rfl | simp_all), rfl⟩

set_option maxHeartbeats 4000000 in
set_option maxRecDepth 100000 in
theorem RNameStart_any (r : Int) (w : World) : Calls Try.prog 105 #[.int .i32 r] w fun e w' => e = .returned (.bool (isNameStart r)) ∧ w = w' := by
  rw [start_spec]
  have HL := fun w => Lib.hid (RLetter_any r w)
  have HI0 := fun w => Lib.hid (RIs_any r 192 767 w)
  have HI1 := fun w => Lib.hid (RIs_any r 880 8191 w)
  have HI2 := fun w => Lib.hid (RIs_any r 8204 8205 w)
  have HI3 := fun w => Lib.hid (RIs_any r 8304 8591 w)
  have HI4 := fun w => Lib.hid (RIs_any r 11264 12271 w)
  have HI5 := fun w => Lib.hid (RIs_any r 12289 55295 w)
  have HI6 := fun w => Lib.hid (RIs_any r 63744 64975 w)
  have HI7 := fun w => Lib.hid (RIs_any r 65008 65533 w)
  have HI8 := fun w => Lib.hid (RIs_any r 65536 983039 w)
  generalize letterF r = bl at HL ⊢
  generalize isF r 192 767 = b0 at HI0 ⊢
  generalize isF r 880 8191 = b1 at HI1 ⊢
  generalize isF r 8204 8205 = b2 at HI2 ⊢
  generalize isF r 8304 8591 = b3 at HI3 ⊢
  generalize isF r 11264 12271 = b4 at HI4 ⊢
  generalize isF r 12289 55295 = b5 at HI5 ⊢
  generalize isF r 63744 64975 = b6 at HI6 ⊢
  generalize isF r 65008 65533 = b7 at HI7 ⊢
  generalize isF r 65536 983039 = b8 at HI8 ⊢
  go_enter Try.func105, Try.ntmps105
  go_wp2_with (first
    | (go_at_call 114; refine (HL _).out.mono ?_; rintro e w' ⟨rfl, rfl⟩)
    | (go_at_call_of 101 (Value.int .i32 192); refine (HI0 _).out.mono ?_; rintro e w' ⟨rfl, rfl⟩)
    | (go_at_call_of 101 (Value.int .i32 880); refine (HI1 _).out.mono ?_; rintro e w' ⟨rfl, rfl⟩)
    | (go_at_call_of 101 (Value.int .i32 8204); refine (HI2 _).out.mono ?_; rintro e w' ⟨rfl, rfl⟩)
    | (go_at_call_of 101 (Value.int .i32 8304); refine (HI3 _).out.mono ?_; rintro e w' ⟨rfl, rfl⟩)
    | (go_at_call_of 101 (Value.int .i32 11264); refine (HI4 _).out.mono ?_; rintro e w' ⟨rfl, rfl⟩)
    | (go_at_call_of 101 (Value.int .i32 12289); refine (HI5 _).out.mono ?_; rintro e w' ⟨rfl, rfl⟩)
    | (go_at_call_of 101 (Value.int .i32 63744); refine (HI6 _).out.mono ?_; rintro e w' ⟨rfl, rfl⟩)
    | (go_at_call_of 101 (Value.int .i32 65008); refine (HI7 _).out.mono ?_; rintro e w' ⟨rfl, rfl⟩)
    | (go_at_call_of 101 (Value.int .i32 65536); refine (HI8 _).out.mono ?_; rintro e w' ⟨rfl, rfl⟩))
  all_goals
    go_ret
    exact ⟨ret_bool (by first | rfl | simp_all), rfl⟩

set_option maxHeartbeats 4000000 in
set_option maxRecDepth 100000 in
theorem RNameChar_any (r : Int) (w : World) : Calls Try.prog 106 #[.int .i32 r] w fun e w' => e = .returned (.bool (isNameChar r)) ∧ w = w' := by
  rw [more_spec]
  have HL := fun w => Lib.hid (RNameStart_any r w)
  have HI1 := fun w => Lib.hid (RIs_any r 48 57 w)
  have HI2 := fun w => Lib.hid (RIs_any r 768 879 w)
  generalize isNameStart r = bl at HL ⊢
  generalize isF r 48 57 = b1 at HI1 ⊢
  generalize isF r 768 879 = b2 at HI2 ⊢
  go_enter Try.func106, Try.ntmps106
  go_wp2_with (first
    | (go_at_call 105; refine (HL _).out.mono ?_; rintro e w' ⟨rfl, rfl⟩)
    | (go_at_call_of 101 (Value.int .i32 48); refine (HI1 _).out.mono ?_; rintro e w' ⟨rfl, rfl⟩)
    | (go_at_call_of 101 (Value.int .i32 768); refine (HI2 _).out.mono ?_; rintro e w' ⟨rfl, rfl⟩))
  all_goals
    go_ret
    exact ⟨ret_bool (by first | rfl | simp_all), rfl⟩

end Go.Proofs.Ytbbplpmaknaadaa
