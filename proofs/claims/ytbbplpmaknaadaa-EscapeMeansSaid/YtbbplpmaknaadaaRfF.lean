/-
  Layer 14 (refs): Known.
-/
import Derived.Test.YtbbplpmaknaadaaRfA
namespace Go.Proofs.Ytbbplpmaknaadaa
open Go.RowKit Go.Lib

set_option maxHeartbeats 1000000 in
set_option maxRecDepth 100000 in
theorem Known_any (s : ByteArray) (w : World) : Calls Try.prog 71 #[.string s] w fun e w' => e = .returned (.tuple #[.int .i32 ((knownF s.data.toList).getD 0), .bool (knownF s.data.toList).isSome]) ∧ w = w' := by
  have hk : ∀ bs : List UInt8, (s.toList == bs) = decide (s.data.toList = bs) := fun bs => by rw [ByteArray.toList_eq, Bool.eq_iff_iff]; simp
  have e1 := hk [108, 116]
  have e2 := hk [103, 116]
  have e3 := hk [97, 109, 112]
  have e4 := hk [97, 112, 111, 115]
  have e5 := hk [113, 117, 111, 116]
  clear hk
  generalize s.data.toList = l at e1 e2 e3 e4 e5 ⊢
  by_cases h1 : l = [108, 116]
  · have HK : Hid (knownF l = some 60) := by rw [Hid, knownF, if_pos h1]
    rw [decide_eq_true h1] at e1
    clear h1 e2 e3 e4 e5
    go_enter Try.func71, Try.ntmps71
    go_wp2
    go_ret2
    exact ⟨by rw [HK.out]; rfl, rfl⟩
  · by_cases h2 : l = [103, 116]
    · have HK : Hid (knownF l = some 62) := by rw [Hid, knownF, if_neg h1, if_pos h2]
      rw [decide_eq_false h1] at e1
      rw [decide_eq_true h2] at e2
      clear h1 h2 e3 e4 e5
      go_enter Try.func71, Try.ntmps71
      go_wp2
      go_ret2
      exact ⟨by rw [HK.out]; rfl, rfl⟩
    · by_cases h3 : l = [97, 109, 112]
      · have HK : Hid (knownF l = some 38) := by rw [Hid, knownF, if_neg h1, if_neg h2, if_pos h3]
        rw [decide_eq_false h1] at e1
        rw [decide_eq_false h2] at e2
        rw [decide_eq_true h3] at e3
        clear h1 h2 h3 e4 e5
        go_enter Try.func71, Try.ntmps71
        go_wp2
        go_ret2
        exact ⟨by rw [HK.out]; rfl, rfl⟩
      · by_cases h4 : l = [97, 112, 111, 115]
        · have HK : Hid (knownF l = some 39) := by rw [Hid, knownF, if_neg h1, if_neg h2, if_neg h3, if_pos h4]
          rw [decide_eq_false h1] at e1
          rw [decide_eq_false h2] at e2
          rw [decide_eq_false h3] at e3
          rw [decide_eq_true h4] at e4
          clear h1 h2 h3 h4 e5
          go_enter Try.func71, Try.ntmps71
          go_wp2
          go_ret2
          exact ⟨by rw [HK.out]; rfl, rfl⟩
        · by_cases h5 : l = [113, 117, 111, 116]
          · have HK : Hid (knownF l = some 34) := by rw [Hid, knownF, if_neg h1, if_neg h2, if_neg h3, if_neg h4, if_pos h5]
            rw [decide_eq_false h1] at e1
            rw [decide_eq_false h2] at e2
            rw [decide_eq_false h3] at e3
            rw [decide_eq_false h4] at e4
            rw [decide_eq_true h5] at e5
            clear h1 h2 h3 h4 h5
            go_enter Try.func71, Try.ntmps71
            go_wp2
            go_ret2
            exact ⟨by rw [HK.out]; rfl, rfl⟩
          · have HK : Hid (knownF l = none) := by rw [Hid, knownF, if_neg h1, if_neg h2, if_neg h3, if_neg h4, if_neg h5]
            rw [decide_eq_false h1] at e1
            rw [decide_eq_false h2] at e2
            rw [decide_eq_false h3] at e3
            rw [decide_eq_false h4] at e4
            rw [decide_eq_false h5] at e5
            clear h1 h2 h3 h4 h5
            go_enter Try.func71, Try.ntmps71
            go_wp2
            go_ret2
            exact ⟨by rw [HK.out]; rfl, rfl⟩

end Go.Proofs.Ytbbplpmaknaadaa
