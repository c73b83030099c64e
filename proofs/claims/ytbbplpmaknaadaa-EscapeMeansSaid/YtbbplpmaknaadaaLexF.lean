/-
  Layer 14: ends of lines: the program's and the document's. Rows of at most 100000000 runes.
-/
import Derived.Test.YtbbplpmaknaadaaLexE
import Derived.Test.YtbbplpmaknaadaaEscB
namespace Go.Proofs.Ytbbplpmaknaadaa
open Go.RowKit Go.Lib

theorem drop_two (l : List Int) (k : Nat) (h : k + 1 < l.length) : l.drop k = l[k] :: l[k + 1] :: l.drop (k + 2) := by
  rw [List.drop_eq_getElem_cons (by omega), List.drop_eq_getElem_cons h]
theorem drop_last (l : List Int) (k : Nat) (h : k + 1 = l.length) : l.drop k = [l[k]] := by
  rw [List.drop_eq_getElem_cons (by omega), List.drop_eq_nil_of_le (by omega)]

set_option maxHeartbeats 2000000 in
set_option maxRecDepth 100000 in
theorem Lines_any (S : Nat → Prop) (A : Option Addr) (n c : Nat) (l : List Int) (w : World) (hr : Rd w S 1 A n c (rc l)) (hn9 : l.length ≤ 100000000) :
    Calls Try.prog 93 #[.slice A n c] w fun e w' => ∃ v, e = .returned v ∧ (∃ n', w'.ownsRow w.heap.size 21 1 v n' (rc (linesF l))) ∧ Below w.heap.size w w' := by
  obtain rfl := hr.rlen
  have hle := hr.le
  have hmx : c ≤ 9223372036854775807 := hr.max
  have HR := Lib.hid hr
  clear hr
  go_enter Try.func93, Try.ntmps93
  go_wp2
  go_loopw [3, 8] (fun v i wr => ∃ (k : Nat) (acc : List Int), k ≤ l.length ∧ i = .int .i64 k ∧ acc.length ≤ k ∧ Hid (acc ++ linesF (l.drop k) = linesF l) ∧ Hid (∃ n', wr.ownsRow w.heap.size 21 1 v n' (rc acc)) ∧ Hid (Below w.heap.size w wr))
    (fun _ i _ => l.length - (intOf i).toNat)
  case atStart => exact ⟨0, [], Nat.zero_le _, rfl, Nat.le_refl _, rfl, ⟨0, World.ownsRow_nil w w.heap.size 21 1⟩, Below.refl _ _⟩
  case round =>
    obtain ⟨k, acc, hk, rfl, hal, HS, HO, HB⟩ := hrel
    obtain ⟨no, HO⟩ := HO.out
    obtain rfl := rc_own_len HO
    obtain ⟨Ao, co, rfl, hro⟩ := own_form HO
    have hco2 : co ≤ 9223372036854775807 := hro.max
    have HO := Lib.hid HO
    clear hro
    by_cases hlt : k < l.length
    · obtain ⟨b, u, rfl, hc0⟩ := (HR.out.below HB.out).rune hlt
      have hd := List.drop_eq_getElem_cons hlt
      by_cases h13 : l[k] = 13
      · by_cases hl1 : k + 1 = l.length
        · have HS2 : Hid ((acc ++ [10]) ++ linesF (l.drop (k + 1)) = linesF l) := by
            rw [Hid, ← HS.out, drop_last l k hl1, h13, linesF_end, List.drop_eq_nil_of_le (by omega)]; simp [linesF]
          have hli : (k : Int) + 1 = (l.length : Int) := by omega
          have hlb : ((k : Int) + 1 == (l.length : Int)) = true := by rw [hli]; simp
          generalize l[k] = r at hc0 h13
          subst h13
          clear hd
          go_wp2_with (first
            | (at_builtin
               refine append_runes _ rfl (.tmp 34) (.tmp 35) rfl w.heap.size _ acc.length _ rfl ((HO.out.alloc _)) _ _ 1 1 [10] rfl (Rd.litN _ wr.heap.size rfl _ #[.int .i32 10] 1 1 rfl (by decide)) (by omega) (by have := HB.out.size; simp; omega) ?_
               intro A4 c4 w4 hown4 hg4 _ _
               have hb4 := below_own (HB.out.alloc HB.out.size _) (by have := HB.out.size; simp; omega) (HO.out.alloc _) hg4
               have HB4 := Lib.hid hb4
               have HO4 := Lib.hid hown4
               clear hown4 hg4 hb4))
          go_roundw
          case rel => exact ⟨k + 1, acc ++ [10], by omega, by go_num, by simp; omega, HS2.out, ⟨_, HO4.out⟩, HB4.out⟩
          case measure => simp [intOf]; omega
        · have hl2 : k + 1 < l.length := by omega
          have hli : ¬ (k : Int) + 1 = (l.length : Int) := by omega
          have hli2 : (k : Int) + 1 < (l.length : Int) := by omega
          have hlb : ((k : Int) + 1 == (l.length : Int)) = false := by rw [beq_eq_false_iff_ne]; exact hli
          obtain ⟨b2, u2, hA, hc1⟩ := (HR.out.below HB.out).rune hl2
          injection hA with hA
          injection hA with e1 e2
          subst e1 e2
          by_cases h10 : l[k + 1] = 10
          · have HS2 : Hid (acc ++ linesF (l.drop (k + 1)) = linesF l) := by
              rw [Hid, ← HS.out, drop_two l k hl2, h13, List.drop_eq_getElem_cons hl2, h10, linesF_skip]
            generalize l[k] = r at hc0 h13
            subst h13
            generalize l[k + 1] = r1 at hc1 h10
            subst h10
            clear hd
            go_wp2
            go_roundw
            case rel => exact ⟨k + 1, acc, by omega, by go_num, by omega, HS2.out, ⟨_, HO.out⟩, HB.out⟩
            case measure => simp [intOf]; omega
          · have HS2 : Hid ((acc ++ [10]) ++ linesF (l.drop (k + 1)) = linesF l) := by
              rw [Hid, ← HS.out, drop_two l k hl2, h13, linesF_other _ _ h10, List.drop_eq_getElem_cons hl2]; simp
            have hnb : (l[k + 1] != 10) = true := by simpa using h10
            generalize l[k] = r at hc0 h13
            subst h13
            generalize l[k + 1] = r1 at hc1 hnb
            clear hd h10
            go_wp2_with (first
              | (at_builtin
                 refine append_runes _ rfl (.tmp 34) (.tmp 35) rfl w.heap.size _ acc.length _ rfl ((HO.out.alloc _)) _ _ 1 1 [10] rfl (Rd.litN _ wr.heap.size rfl _ #[.int .i32 10] 1 1 rfl (by decide)) (by omega) (by have := HB.out.size; simp; omega) ?_
                 intro A4 c4 w4 hown4 hg4 _ _
                 have hb4 := below_own (HB.out.alloc HB.out.size _) (by have := HB.out.size; simp; omega) (HO.out.alloc _) hg4
                 have HB4 := Lib.hid hb4
                 have HO4 := Lib.hid hown4
                 clear hown4 hg4 hb4))
            go_roundw
            case rel => exact ⟨k + 1, acc ++ [10], by omega, by go_num, by simp; omega, HS2.out, ⟨_, HO4.out⟩, HB4.out⟩
            case measure => simp [intOf]; omega
      · have HS2 : Hid ((acc ++ [l[k]]) ++ linesF (l.drop (k + 1)) = linesF l) := by
          rw [Hid, ← HS.out, hd, linesF_cons _ _ h13]; simp
        have hnb : (l[k] != 13) = true := by simpa using h13
        clear hd h13
        generalize l[k] = r at hc0 HS2 hnb
        go_wp2_with (first
          | (at_builtin
             refine append_runes _ rfl (.tmp 16) (.tmp 18) rfl w.heap.size _ acc.length _ rfl ((HO.out.alloc _)) _ _ 1 1 [r] rfl (Rd.litN _ wr.heap.size rfl _ #[.int .i32 r] 1 1 rfl (by decide)) (by omega) (by have := HB.out.size; simp; omega) ?_
             intro A4 c4 w4 hown4 hg4 _ _
             have hb4 := below_own (HB.out.alloc HB.out.size _) (by have := HB.out.size; simp; omega) (HO.out.alloc _) hg4
             have HB4 := Lib.hid hb4
             have HO4 := Lib.hid hown4
             clear hown4 hg4 hb4))
        go_roundw
        case rel => exact ⟨k + 1, acc ++ [r], by omega, by go_num, by simp; omega, HS2.out, ⟨_, HO4.out⟩, HB4.out⟩
        case measure => simp [intOf]; omega
    · have e : l.drop k = [] := List.drop_eq_nil_of_le (by omega)
      have HE : Hid (acc = linesF l) := by rw [Hid, ← HS.out, e]; simp [linesF]
      go_wp2
      go_ret
      exact ⟨_, rfl, ⟨_, by rw [← HE.out]; exact HO.out⟩, HB.out⟩

set_option maxHeartbeats 2000000 in
set_option maxRecDepth 100000 in
theorem RLines_any (S : Nat → Prop) (A : Option Addr) (n c : Nat) (l : List Int) (w : World) (hr : Rd w S 1 A n c (rc l)) (hn9 : l.length ≤ 100000000) :
    Calls Try.prog 97 #[.slice A n c] w fun e w' => ∃ v, e = .returned v ∧ (∃ n', w'.ownsRow w.heap.size 21 1 v n' (rc (linesF l))) ∧ Below w.heap.size w w' := by
  obtain rfl := hr.rlen
  have hle := hr.le
  have hmx : c ≤ 9223372036854775807 := hr.max
  have HR := Lib.hid hr
  clear hr
  go_enter Try.func97, Try.ntmps97
  go_wp2
  go_loopw [3, 4] (fun v i wr => ∃ (k : Nat) (acc : List Int), k ≤ l.length ∧ i = .int .i64 k ∧ acc.length ≤ k ∧ Hid (acc ++ linesF (l.drop k) = linesF l) ∧ Hid (∃ n', wr.ownsRow w.heap.size 21 1 v n' (rc acc)) ∧ Hid (Below w.heap.size w wr))
    (fun _ i _ => l.length - (intOf i).toNat)
  case atStart => exact ⟨0, [], Nat.zero_le _, rfl, Nat.le_refl _, rfl, ⟨0, World.ownsRow_nil w w.heap.size 21 1⟩, Below.refl _ _⟩
  case round =>
    obtain ⟨k, acc, hk, rfl, hal, HS, HO, HB⟩ := hrel
    obtain ⟨no, HO⟩ := HO.out
    obtain rfl := rc_own_len HO
    obtain ⟨Ao, co, rfl, hro⟩ := own_form HO
    have hco2 : co ≤ 9223372036854775807 := hro.max
    have HO := Lib.hid HO
    clear hro
    by_cases hlt : k < l.length
    · obtain ⟨b, u, rfl, hc0⟩ := (HR.out.below HB.out).rune hlt
      have hd := List.drop_eq_getElem_cons hlt
      by_cases h13 : l[k] = 13
      · by_cases hl1 : k + 1 = l.length
        · have HS2 : Hid ((acc ++ [10]) ++ linesF (l.drop (k + 1)) = linesF l) := by
            rw [Hid, ← HS.out, drop_last l k hl1, h13, linesF_end, List.drop_eq_nil_of_le (by omega)]; simp [linesF]
          have hli : ¬ (k : Int) + 1 < (l.length : Int) := by omega
          generalize l[k] = r at hc0 h13
          subst h13
          clear hd
          go_wp2_with (first
            | (at_builtin
               refine append_runes _ rfl (.tmp 33) (.tmp 35) rfl w.heap.size _ acc.length _ rfl ((HO.out.alloc _)) _ _ 1 1 [10] rfl (Rd.litN _ wr.heap.size rfl _ #[.int .i32 10] 1 1 rfl (by decide)) (by omega) (by have := HB.out.size; simp; omega) ?_
               intro A4 c4 w4 hown4 hg4 _ _
               have hb4 := below_own (HB.out.alloc HB.out.size _) (by have := HB.out.size; simp; omega) (HO.out.alloc _) hg4
               have HB4 := Lib.hid hb4
               have HO4 := Lib.hid hown4
               clear hown4 hg4 hb4))
          go_roundw
          case rel => exact ⟨k + 1, acc ++ [10], by omega, by go_num, by simp; omega, HS2.out, ⟨_, HO4.out⟩, HB4.out⟩
          case measure => simp [intOf]; omega
        · have hl2 : k + 1 < l.length := by omega
          have hli2 : (k : Int) + 1 < (l.length : Int) := by omega
          obtain ⟨b2, u2, hA, hc1⟩ := (HR.out.below HB.out).rune hl2
          injection hA with hA
          injection hA with e1 e2
          subst e1 e2
          by_cases h10 : l[k + 1] = 10
          · have HS2 : Hid ((acc ++ [10]) ++ linesF (l.drop (k + 2)) = linesF l) := by
              rw [Hid, ← HS.out, drop_two l k hl2, h13, h10, linesF_ten]; simp
            generalize l[k] = r at hc0 h13
            subst h13
            generalize l[k + 1] = r1 at hc1 h10
            subst h10
            clear hd
            go_wp2_with (first
              | (at_builtin
                 refine append_runes _ rfl (.tmp 33) (.tmp 35) rfl w.heap.size _ acc.length _ rfl ((HO.out.alloc _)) _ _ 1 1 [10] rfl (Rd.litN _ wr.heap.size rfl _ #[.int .i32 10] 1 1 rfl (by decide)) (by omega) (by have := HB.out.size; simp; omega) ?_
                 intro A4 c4 w4 hown4 hg4 _ _
                 have hb4 := below_own (HB.out.alloc HB.out.size _) (by have := HB.out.size; simp; omega) (HO.out.alloc _) hg4
                 have HB4 := Lib.hid hb4
                 have HO4 := Lib.hid hown4
                 clear hown4 hg4 hb4))
            go_roundw
            case rel => exact ⟨k + 2, acc ++ [10], by omega, by go_num, by simp; omega, HS2.out, ⟨_, HO4.out⟩, HB4.out⟩
            case measure => simp [intOf]; omega
          · have HS2 : Hid ((acc ++ [10]) ++ linesF (l.drop (k + 1)) = linesF l) := by
              rw [Hid, ← HS.out, drop_two l k hl2, h13, linesF_other _ _ h10, List.drop_eq_getElem_cons hl2]; simp
            have hnb : (l[k + 1] == 10) = false := by simpa using h10
            generalize l[k] = r at hc0 h13
            subst h13
            generalize l[k + 1] = r1 at hc1 hnb
            clear hd h10
            go_wp2_with (first
              | (at_builtin
                 refine append_runes _ rfl (.tmp 33) (.tmp 35) rfl w.heap.size _ acc.length _ rfl ((HO.out.alloc _)) _ _ 1 1 [10] rfl (Rd.litN _ wr.heap.size rfl _ #[.int .i32 10] 1 1 rfl (by decide)) (by omega) (by have := HB.out.size; simp; omega) ?_
                 intro A4 c4 w4 hown4 hg4 _ _
                 have hb4 := below_own (HB.out.alloc HB.out.size _) (by have := HB.out.size; simp; omega) (HO.out.alloc _) hg4
                 have HB4 := Lib.hid hb4
                 have HO4 := Lib.hid hown4
                 clear hown4 hg4 hb4))
            go_roundw
            case rel => exact ⟨k + 1, acc ++ [10], by omega, by go_num, by simp; omega, HS2.out, ⟨_, HO4.out⟩, HB4.out⟩
            case measure => simp [intOf]; omega
      · have HS2 : Hid ((acc ++ [l[k]]) ++ linesF (l.drop (k + 1)) = linesF l) := by
          rw [Hid, ← HS.out, hd, linesF_cons _ _ h13]; simp
        have hnb : (l[k] == 13) = false := by simpa using h13
        clear hd h13
        generalize l[k] = r at hc0 HS2 hnb
        go_wp2_with (first
          | (at_builtin
             refine append_runes _ rfl (.tmp 33) (.tmp 35) rfl w.heap.size _ acc.length _ rfl ((HO.out.alloc _)) _ _ 1 1 [r] rfl (Rd.litN _ wr.heap.size rfl _ #[.int .i32 r] 1 1 rfl (by decide)) (by omega) (by have := HB.out.size; simp; omega) ?_
             intro A4 c4 w4 hown4 hg4 _ _
             have hb4 := below_own (HB.out.alloc HB.out.size _) (by have := HB.out.size; simp; omega) (HO.out.alloc _) hg4
             have HB4 := Lib.hid hb4
             have HO4 := Lib.hid hown4
             clear hown4 hg4 hb4))
        go_roundw
        case rel => exact ⟨k + 1, acc ++ [r], by omega, by go_num, by simp; omega, HS2.out, ⟨_, HO4.out⟩, HB4.out⟩
        case measure => simp [intOf]; omega
    · have e : l.drop k = [] := List.drop_eq_nil_of_le (by omega)
      have HE : Hid (acc = linesF l) := by rw [Hid, ← HS.out, e]; simp [linesF]
      go_wp2
      go_ret
      exact ⟨_, rfl, ⟨_, by rw [← HE.out]; exact HO.out⟩, HB.out⟩

end Go.Proofs.Ytbbplpmaknaadaa
