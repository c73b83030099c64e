/-
  Layer 14 (refs): Put, the document's, in single quotes.
-/
import Derived.Test.YtbbplpmaknaadaaPutC
namespace Go.Proofs.Ytbbplpmaknaadaa
open Go.RowKit Go.Lib

set_option maxHeartbeats 4000000 in
set_option maxRecDepth 100000 in
theorem RPut39 (S : Nat → Prop) (A : Option Addr) (n c : Nat) (l : List Int) (w : World) (hr : Rd w S 1 A n c (rc l)) (hn9 : l.length ≤ 100000000) :
    Calls Try.prog 56 #[.slice A n c, .int .i32 39] w fun e w' => ∃ v, e = .returned v ∧ (∃ n', w'.ownsRow w.heap.size 21 1 v n' (rc (putF l 39))) ∧ Below w.heap.size w w' := by
  obtain rfl := hr.rlen
  have hle := hr.le
  have hmx : c ≤ 9223372036854775807 := hr.max
  have HR := Lib.hid hr
  clear hr
  go_enter Try.func56, Try.ntmps56
  go_wp2
  go_loopw [6, 18] (fun v i wr => ∃ (k : Nat), k ≤ l.length ∧ i = .int .i64 k ∧ Hid (∃ n', wr.ownsRow w.heap.size 21 1 v n' (rc (putTo l 39 k))) ∧ Hid (Below w.heap.size w wr))
    (fun _ i _ => l.length - (intOf i).toNat)
  case atStart => exact ⟨0, Nat.zero_le _, rfl, ⟨0, World.ownsRow_nil w w.heap.size 21 1⟩, Below.refl _ _⟩
  case round =>
    obtain ⟨k, hk, rfl, HO, HB⟩ := hrel
    obtain ⟨no, HO⟩ := HO.out
    have hno := rc_own_len HO
    have hpl := putTo_len l 39 k
    have hnob : no ≤ 600000000 := by omega
    clear hpl
    obtain ⟨Ao, co, rfl, hro⟩ := own_form HO
    have hco2 : co ≤ 9223372036854775807 := hro.max
    have HO := Lib.hid HO
    clear hro hno
    by_cases hlt : k < l.length
    · obtain ⟨b, u, rfl, hc0⟩ := (HR.out.below HB.out).rune hlt
      have HSU := Lib.hid (putTo_succ l 39 k)
      have HSR : Hid (signR l 39 k = (if signF l[k] 39 (two93 l k) = [] then [l[k]] else []) ++ bi (signF l[k] 39 (two93 l k))) := by rw [Hid, signR, getD_at hlt]
      generalize signR l 39 k = sr at HSU HSR
      generalize putTo l 39 k = o at HO HSU
      by_cases e62 : l[k] = 62
      · rw [e62] at hc0 HSR
        clear e62
        by_cases h2 : 2 ≤ k
        · have hi1 : (k : Int) - 1 = ((k - 1 : Nat) : Int) := by omega
          have hi2 : (k : Int) - 2 = ((k - 2 : Nat) : Int) := by omega
          have hg2 : (k : Int) > 1 := by omega
          have hi3 : ((k - 1 : Nat) : Int) < (l.length : Int) := by omega
          have hi4 : ((k - 2 : Nat) : Int) < (l.length : Int) := by omega
          obtain ⟨b1, o1, hA, hc1⟩ := ((HR.out.below HB.out).alloc (.cells #[.int .i32 62] 21)).rune (k := k - 1) (by omega)
          injection hA with hA
          injection hA with e1 e2
          subst e1 e2
          obtain ⟨b2, o2, hA, hc2⟩ := ((HR.out.below HB.out).alloc (.cells #[.int .i32 62] 21)).rune (k := k - 2) (by omega)
          injection hA with hA
          injection hA with e1 e2
          subst e1 e2
          have ht : two93 l k = (l[k - 1] == 93 && l[k - 2] == 93) := by rw [two93, decide_eq_true h2, Bool.true_and, getD_at (show k - 1 < l.length by omega), getD_at (show k - 2 < l.length by omega)]
          rw [ht] at HSR
          clear ht
          generalize l[k - 1] = r1 at hc1 HSR
          generalize l[k - 2] = r2 at hc2 HSR
          by_cases f1 : r1 = 93
          · subst f1
            by_cases f2 : r2 = 93
            · subst f2
              go_wp2_with (first
                | (go_at_call 76
                   refine (RText_any _ _ (by decide)).mono ?_
                   rintro e wt ⟨vt, rfl, ⟨nt, hot⟩, hbt⟩
                   obtain ⟨At, ct, rfl, hrt⟩ := own_form hot
                   have HT := Lib.hid hrt
                   have HOT := Lib.hid (own_below (HO.out.alloc _) hbt)
                   have HBT := Lib.hid (((HB.out.alloc HB.out.size _)).trans (hbt.mono (by have := HB.out.size; simp; omega)))
                   have hnt : nt ≤ 100 := by rw [rc_own_len hot]; decide
                   clear hrt hbt hot)
                | (at_builtin
                   refine append_runes _ rfl (.tmp 91) (.tmp 92) rfl w.heap.size _ _ _ rfl HOT.out _ _ nt ct _ rfl HT.out (by omega) HBT.out.size ?_
                   intro A4 c4 w4 hown4 hg4 _ _
                   have hb4 := below_own HBT.out HBT.out.size HOT.out hg4
                   have HB4 := Lib.hid hb4
                   have HO4 := Lib.hid hown4
                   clear hown4 hg4 hb4)
                | (at_builtin
                   refine append_runes _ rfl (.tmp 91) (.tmp 92) rfl w.heap.size _ _ _ rfl (HO.out.alloc _) _ _ 1 1 [_] rfl (Rd.litN _ wr.heap.size rfl _ #[.int .i32 _] 1 1 rfl (by decide)) (by omega) (by have := HB.out.size; simp; omega) ?_
                   intro A4 c4 w4 hown4 hg4 _ _
                   have hb4 := below_own (HB.out.alloc HB.out.size _) (by have := HB.out.size; simp; omega) (HO.out.alloc _) hg4
                   have HB4 := Lib.hid hb4
                   have HO4 := Lib.hid hown4
                   clear hown4 hg4 hb4))
              go_roundw
              case rel =>
                refine ⟨k + 1, by omega, by go_num, ⟨_, own_eq HO4.out ?_⟩, HB4.out⟩
                rw [HSU.out, HSR.out]
                clear HO4 HB4 HO HB HSU HSR HR
                simp_all [signF, bi]
              case measure => simp [intOf]; omega
            · have g2 : (r2 == 93) = false := by simpa using f2
              go_wp2_with (first
                | (go_at_call 76
                   refine (RText_any _ _ (by decide)).mono ?_
                   rintro e wt ⟨vt, rfl, ⟨nt, hot⟩, hbt⟩
                   obtain ⟨At, ct, rfl, hrt⟩ := own_form hot
                   have HT := Lib.hid hrt
                   have HOT := Lib.hid (own_below (HO.out.alloc _) hbt)
                   have HBT := Lib.hid (((HB.out.alloc HB.out.size _)).trans (hbt.mono (by have := HB.out.size; simp; omega)))
                   have hnt : nt ≤ 100 := by rw [rc_own_len hot]; decide
                   clear hrt hbt hot)
                | (at_builtin
                   refine append_runes _ rfl (.tmp 91) (.tmp 92) rfl w.heap.size _ _ _ rfl HOT.out _ _ nt ct _ rfl HT.out (by omega) HBT.out.size ?_
                   intro A4 c4 w4 hown4 hg4 _ _
                   have hb4 := below_own HBT.out HBT.out.size HOT.out hg4
                   have HB4 := Lib.hid hb4
                   have HO4 := Lib.hid hown4
                   clear hown4 hg4 hb4)
                | (at_builtin
                   refine append_runes _ rfl (.tmp 91) (.tmp 92) rfl w.heap.size _ _ _ rfl (HO.out.alloc _) _ _ 1 1 [_] rfl (Rd.litN _ wr.heap.size rfl _ #[.int .i32 _] 1 1 rfl (by decide)) (by omega) (by have := HB.out.size; simp; omega) ?_
                   intro A4 c4 w4 hown4 hg4 _ _
                   have hb4 := below_own (HB.out.alloc HB.out.size _) (by have := HB.out.size; simp; omega) (HO.out.alloc _) hg4
                   have HB4 := Lib.hid hb4
                   have HO4 := Lib.hid hown4
                   clear hown4 hg4 hb4))
              go_roundw
              case rel =>
                refine ⟨k + 1, by omega, by go_num, ⟨_, own_eq HO4.out ?_⟩, HB4.out⟩
                rw [HSU.out, HSR.out]
                clear HO4 HB4 HO HB HSU HSR HR
                simp_all [signF, bi]
              case measure => simp [intOf]; omega
          · have g1 : (r1 == 93) = false := by simpa using f1
            go_wp2_with (first
              | (go_at_call 76
                 refine (RText_any _ _ (by decide)).mono ?_
                 rintro e wt ⟨vt, rfl, ⟨nt, hot⟩, hbt⟩
                 obtain ⟨At, ct, rfl, hrt⟩ := own_form hot
                 have HT := Lib.hid hrt
                 have HOT := Lib.hid (own_below (HO.out.alloc _) hbt)
                 have HBT := Lib.hid (((HB.out.alloc HB.out.size _)).trans (hbt.mono (by have := HB.out.size; simp; omega)))
                 have hnt : nt ≤ 100 := by rw [rc_own_len hot]; decide
                 clear hrt hbt hot)
              | (at_builtin
                 refine append_runes _ rfl (.tmp 91) (.tmp 92) rfl w.heap.size _ _ _ rfl HOT.out _ _ nt ct _ rfl HT.out (by omega) HBT.out.size ?_
                 intro A4 c4 w4 hown4 hg4 _ _
                 have hb4 := below_own HBT.out HBT.out.size HOT.out hg4
                 have HB4 := Lib.hid hb4
                 have HO4 := Lib.hid hown4
                 clear hown4 hg4 hb4)
              | (at_builtin
                 refine append_runes _ rfl (.tmp 91) (.tmp 92) rfl w.heap.size _ _ _ rfl (HO.out.alloc _) _ _ 1 1 [_] rfl (Rd.litN _ wr.heap.size rfl _ #[.int .i32 _] 1 1 rfl (by decide)) (by omega) (by have := HB.out.size; simp; omega) ?_
                 intro A4 c4 w4 hown4 hg4 _ _
                 have hb4 := below_own (HB.out.alloc HB.out.size _) (by have := HB.out.size; simp; omega) (HO.out.alloc _) hg4
                 have HB4 := Lib.hid hb4
                 have HO4 := Lib.hid hown4
                 clear hown4 hg4 hb4))
            go_roundw
            case rel =>
              refine ⟨k + 1, by omega, by go_num, ⟨_, own_eq HO4.out ?_⟩, HB4.out⟩
              rw [HSU.out, HSR.out]
              clear HO4 HB4 HO HB HSU HSR HR
              simp_all [signF, bi]
            case measure => simp [intOf]; omega
        · have ht : two93 l k = false := by simp [two93, h2]
          rw [ht] at HSR
          have hg2 : ¬ (k : Int) > 1 := by omega
          clear ht
          go_wp2_with (first
            | (go_at_call 76
               refine (RText_any _ _ (by decide)).mono ?_
               rintro e wt ⟨vt, rfl, ⟨nt, hot⟩, hbt⟩
               obtain ⟨At, ct, rfl, hrt⟩ := own_form hot
               have HT := Lib.hid hrt
               have HOT := Lib.hid (own_below (HO.out.alloc _) hbt)
               have HBT := Lib.hid (((HB.out.alloc HB.out.size _)).trans (hbt.mono (by have := HB.out.size; simp; omega)))
               have hnt : nt ≤ 100 := by rw [rc_own_len hot]; decide
               clear hrt hbt hot)
            | (at_builtin
               refine append_runes _ rfl (.tmp 91) (.tmp 92) rfl w.heap.size _ _ _ rfl HOT.out _ _ nt ct _ rfl HT.out (by omega) HBT.out.size ?_
               intro A4 c4 w4 hown4 hg4 _ _
               have hb4 := below_own HBT.out HBT.out.size HOT.out hg4
               have HB4 := Lib.hid hb4
               have HO4 := Lib.hid hown4
               clear hown4 hg4 hb4)
            | (at_builtin
               refine append_runes _ rfl (.tmp 91) (.tmp 92) rfl w.heap.size _ _ _ rfl (HO.out.alloc _) _ _ 1 1 [_] rfl (Rd.litN _ wr.heap.size rfl _ #[.int .i32 _] 1 1 rfl (by decide)) (by omega) (by have := HB.out.size; simp; omega) ?_
               intro A4 c4 w4 hown4 hg4 _ _
               have hb4 := below_own (HB.out.alloc HB.out.size _) (by have := HB.out.size; simp; omega) (HO.out.alloc _) hg4
               have HB4 := Lib.hid hb4
               have HO4 := Lib.hid hown4
               clear hown4 hg4 hb4))
          go_roundw
          case rel =>
            refine ⟨k + 1, by omega, by go_num, ⟨_, own_eq HO4.out ?_⟩, HB4.out⟩
            rw [HSU.out, HSR.out]
            clear HO4 HB4 HO HB HSU HSR HR
            simp_all [signF, bi]
          case measure => simp [intOf]; omega
      · have g62 : (l[k] == 62) = false := by simpa using e62
        generalize two93 l k = tw at HSR
        clear e62
        generalize l[k] = r at hc0 HSR g62
        by_cases e38 : r = 38
        · subst e38
          go_wp2_with (first
            | (go_at_call 76
               refine (RText_any _ _ (by decide)).mono ?_
               rintro e wt ⟨vt, rfl, ⟨nt, hot⟩, hbt⟩
               obtain ⟨At, ct, rfl, hrt⟩ := own_form hot
               have HT := Lib.hid hrt
               have HOT := Lib.hid (own_below (HO.out.alloc _) hbt)
               have HBT := Lib.hid (((HB.out.alloc HB.out.size _)).trans (hbt.mono (by have := HB.out.size; simp; omega)))
               have hnt : nt ≤ 100 := by rw [rc_own_len hot]; decide
               clear hrt hbt hot)
            | (at_builtin
               refine append_runes _ rfl (.tmp 91) (.tmp 92) rfl w.heap.size _ _ _ rfl HOT.out _ _ nt ct _ rfl HT.out (by omega) HBT.out.size ?_
               intro A4 c4 w4 hown4 hg4 _ _
               have hb4 := below_own HBT.out HBT.out.size HOT.out hg4
               have HB4 := Lib.hid hb4
               have HO4 := Lib.hid hown4
               clear hown4 hg4 hb4)
            | (at_builtin
               refine append_runes _ rfl (.tmp 91) (.tmp 92) rfl w.heap.size _ _ _ rfl (HO.out.alloc _) _ _ 1 1 [_] rfl (Rd.litN _ wr.heap.size rfl _ #[.int .i32 _] 1 1 rfl (by decide)) (by omega) (by have := HB.out.size; simp; omega) ?_
               intro A4 c4 w4 hown4 hg4 _ _
               have hb4 := below_own (HB.out.alloc HB.out.size _) (by have := HB.out.size; simp; omega) (HO.out.alloc _) hg4
               have HB4 := Lib.hid hb4
               have HO4 := Lib.hid hown4
               clear hown4 hg4 hb4))
          go_roundw
          case rel =>
            refine ⟨k + 1, by omega, by go_num, ⟨_, own_eq HO4.out ?_⟩, HB4.out⟩
            rw [HSU.out, HSR.out]
            clear HO4 HB4 HO HB HSU HSR HR
            simp_all [signF, bi]
          case measure => simp [intOf]; omega
        · have g38 : (r == 38) = false := by simpa using e38
          clear e38
          by_cases e60 : r = 60
          · subst e60
            go_wp2_with (first
              | (go_at_call 76
                 refine (RText_any _ _ (by decide)).mono ?_
                 rintro e wt ⟨vt, rfl, ⟨nt, hot⟩, hbt⟩
                 obtain ⟨At, ct, rfl, hrt⟩ := own_form hot
                 have HT := Lib.hid hrt
                 have HOT := Lib.hid (own_below (HO.out.alloc _) hbt)
                 have HBT := Lib.hid (((HB.out.alloc HB.out.size _)).trans (hbt.mono (by have := HB.out.size; simp; omega)))
                 have hnt : nt ≤ 100 := by rw [rc_own_len hot]; decide
                 clear hrt hbt hot)
              | (at_builtin
                 refine append_runes _ rfl (.tmp 91) (.tmp 92) rfl w.heap.size _ _ _ rfl HOT.out _ _ nt ct _ rfl HT.out (by omega) HBT.out.size ?_
                 intro A4 c4 w4 hown4 hg4 _ _
                 have hb4 := below_own HBT.out HBT.out.size HOT.out hg4
                 have HB4 := Lib.hid hb4
                 have HO4 := Lib.hid hown4
                 clear hown4 hg4 hb4)
              | (at_builtin
                 refine append_runes _ rfl (.tmp 91) (.tmp 92) rfl w.heap.size _ _ _ rfl (HO.out.alloc _) _ _ 1 1 [_] rfl (Rd.litN _ wr.heap.size rfl _ #[.int .i32 _] 1 1 rfl (by decide)) (by omega) (by have := HB.out.size; simp; omega) ?_
                 intro A4 c4 w4 hown4 hg4 _ _
                 have hb4 := below_own (HB.out.alloc HB.out.size _) (by have := HB.out.size; simp; omega) (HO.out.alloc _) hg4
                 have HB4 := Lib.hid hb4
                 have HO4 := Lib.hid hown4
                 clear hown4 hg4 hb4))
            go_roundw
            case rel =>
              refine ⟨k + 1, by omega, by go_num, ⟨_, own_eq HO4.out ?_⟩, HB4.out⟩
              rw [HSU.out, HSR.out]
              clear HO4 HB4 HO HB HSU HSR HR
              simp_all [signF, bi]
            case measure => simp [intOf]; omega
          · have g60 : (r == 60) = false := by simpa using e60
            clear e60
            by_cases e13 : r = 13
            · subst e13
              go_wp2_with (first
                | (go_at_call 76
                   refine (RText_any _ _ (by decide)).mono ?_
                   rintro e wt ⟨vt, rfl, ⟨nt, hot⟩, hbt⟩
                   obtain ⟨At, ct, rfl, hrt⟩ := own_form hot
                   have HT := Lib.hid hrt
                   have HOT := Lib.hid (own_below (HO.out.alloc _) hbt)
                   have HBT := Lib.hid (((HB.out.alloc HB.out.size _)).trans (hbt.mono (by have := HB.out.size; simp; omega)))
                   have hnt : nt ≤ 100 := by rw [rc_own_len hot]; decide
                   clear hrt hbt hot)
                | (at_builtin
                   refine append_runes _ rfl (.tmp 91) (.tmp 92) rfl w.heap.size _ _ _ rfl HOT.out _ _ nt ct _ rfl HT.out (by omega) HBT.out.size ?_
                   intro A4 c4 w4 hown4 hg4 _ _
                   have hb4 := below_own HBT.out HBT.out.size HOT.out hg4
                   have HB4 := Lib.hid hb4
                   have HO4 := Lib.hid hown4
                   clear hown4 hg4 hb4)
                | (at_builtin
                   refine append_runes _ rfl (.tmp 91) (.tmp 92) rfl w.heap.size _ _ _ rfl (HO.out.alloc _) _ _ 1 1 [_] rfl (Rd.litN _ wr.heap.size rfl _ #[.int .i32 _] 1 1 rfl (by decide)) (by omega) (by have := HB.out.size; simp; omega) ?_
                   intro A4 c4 w4 hown4 hg4 _ _
                   have hb4 := below_own (HB.out.alloc HB.out.size _) (by have := HB.out.size; simp; omega) (HO.out.alloc _) hg4
                   have HB4 := Lib.hid hb4
                   have HO4 := Lib.hid hown4
                   clear hown4 hg4 hb4))
              go_roundw
              case rel =>
                refine ⟨k + 1, by omega, by go_num, ⟨_, own_eq HO4.out ?_⟩, HB4.out⟩
                rw [HSU.out, HSR.out]
                clear HO4 HB4 HO HB HSU HSR HR
                simp_all [signF, bi]
              case measure => simp [intOf]; omega
            · have g13 : (r == 13) = false := by simpa using e13
              clear e13
              by_cases e9 : r = 9
              · subst e9
                go_wp2_with (first
                  | (go_at_call 76
                     refine (RText_any _ _ (by decide)).mono ?_
                     rintro e wt ⟨vt, rfl, ⟨nt, hot⟩, hbt⟩
                     obtain ⟨At, ct, rfl, hrt⟩ := own_form hot
                     have HT := Lib.hid hrt
                     have HOT := Lib.hid (own_below (HO.out.alloc _) hbt)
                     have HBT := Lib.hid (((HB.out.alloc HB.out.size _)).trans (hbt.mono (by have := HB.out.size; simp; omega)))
                     have hnt : nt ≤ 100 := by rw [rc_own_len hot]; decide
                     clear hrt hbt hot)
                  | (at_builtin
                     refine append_runes _ rfl (.tmp 91) (.tmp 92) rfl w.heap.size _ _ _ rfl HOT.out _ _ nt ct _ rfl HT.out (by omega) HBT.out.size ?_
                     intro A4 c4 w4 hown4 hg4 _ _
                     have hb4 := below_own HBT.out HBT.out.size HOT.out hg4
                     have HB4 := Lib.hid hb4
                     have HO4 := Lib.hid hown4
                     clear hown4 hg4 hb4)
                  | (at_builtin
                     refine append_runes _ rfl (.tmp 91) (.tmp 92) rfl w.heap.size _ _ _ rfl (HO.out.alloc _) _ _ 1 1 [_] rfl (Rd.litN _ wr.heap.size rfl _ #[.int .i32 _] 1 1 rfl (by decide)) (by omega) (by have := HB.out.size; simp; omega) ?_
                     intro A4 c4 w4 hown4 hg4 _ _
                     have hb4 := below_own (HB.out.alloc HB.out.size _) (by have := HB.out.size; simp; omega) (HO.out.alloc _) hg4
                     have HB4 := Lib.hid hb4
                     have HO4 := Lib.hid hown4
                     clear hown4 hg4 hb4))
                go_roundw
                case rel =>
                  refine ⟨k + 1, by omega, by go_num, ⟨_, own_eq HO4.out ?_⟩, HB4.out⟩
                  rw [HSU.out, HSR.out]
                  clear HO4 HB4 HO HB HSU HSR HR
                  simp_all [signF, bi]
                case measure => simp [intOf]; omega
              · have g9 : (r == 9) = false := by simpa using e9
                clear e9
                by_cases e10 : r = 10
                · subst e10
                  go_wp2_with (first
                    | (go_at_call 76
                       refine (RText_any _ _ (by decide)).mono ?_
                       rintro e wt ⟨vt, rfl, ⟨nt, hot⟩, hbt⟩
                       obtain ⟨At, ct, rfl, hrt⟩ := own_form hot
                       have HT := Lib.hid hrt
                       have HOT := Lib.hid (own_below (HO.out.alloc _) hbt)
                       have HBT := Lib.hid (((HB.out.alloc HB.out.size _)).trans (hbt.mono (by have := HB.out.size; simp; omega)))
                       have hnt : nt ≤ 100 := by rw [rc_own_len hot]; decide
                       clear hrt hbt hot)
                    | (at_builtin
                       refine append_runes _ rfl (.tmp 91) (.tmp 92) rfl w.heap.size _ _ _ rfl HOT.out _ _ nt ct _ rfl HT.out (by omega) HBT.out.size ?_
                       intro A4 c4 w4 hown4 hg4 _ _
                       have hb4 := below_own HBT.out HBT.out.size HOT.out hg4
                       have HB4 := Lib.hid hb4
                       have HO4 := Lib.hid hown4
                       clear hown4 hg4 hb4)
                    | (at_builtin
                       refine append_runes _ rfl (.tmp 91) (.tmp 92) rfl w.heap.size _ _ _ rfl (HO.out.alloc _) _ _ 1 1 [_] rfl (Rd.litN _ wr.heap.size rfl _ #[.int .i32 _] 1 1 rfl (by decide)) (by omega) (by have := HB.out.size; simp; omega) ?_
                       intro A4 c4 w4 hown4 hg4 _ _
                       have hb4 := below_own (HB.out.alloc HB.out.size _) (by have := HB.out.size; simp; omega) (HO.out.alloc _) hg4
                       have HB4 := Lib.hid hb4
                       have HO4 := Lib.hid hown4
                       clear hown4 hg4 hb4))
                  go_roundw
                  case rel =>
                    refine ⟨k + 1, by omega, by go_num, ⟨_, own_eq HO4.out ?_⟩, HB4.out⟩
                    rw [HSU.out, HSR.out]
                    clear HO4 HB4 HO HB HSU HSR HR
                    simp_all [signF, bi]
                  case measure => simp [intOf]; omega
                · have g10 : (r == 10) = false := by simpa using e10
                  clear e10
                  by_cases e39 : r = 39
                  · subst e39
                    go_wp2_with (first
                      | (go_at_call 76
                         refine (RText_any _ _ (by decide)).mono ?_
                         rintro e wt ⟨vt, rfl, ⟨nt, hot⟩, hbt⟩
                         obtain ⟨At, ct, rfl, hrt⟩ := own_form hot
                         have HT := Lib.hid hrt
                         have HOT := Lib.hid (own_below (HO.out.alloc _) hbt)
                         have HBT := Lib.hid (((HB.out.alloc HB.out.size _)).trans (hbt.mono (by have := HB.out.size; simp; omega)))
                         have hnt : nt ≤ 100 := by rw [rc_own_len hot]; decide
                         clear hrt hbt hot)
                      | (at_builtin
                         refine append_runes _ rfl (.tmp 91) (.tmp 92) rfl w.heap.size _ _ _ rfl HOT.out _ _ nt ct _ rfl HT.out (by omega) HBT.out.size ?_
                         intro A4 c4 w4 hown4 hg4 _ _
                         have hb4 := below_own HBT.out HBT.out.size HOT.out hg4
                         have HB4 := Lib.hid hb4
                         have HO4 := Lib.hid hown4
                         clear hown4 hg4 hb4)
                      | (at_builtin
                         refine append_runes _ rfl (.tmp 91) (.tmp 92) rfl w.heap.size _ _ _ rfl (HO.out.alloc _) _ _ 1 1 [_] rfl (Rd.litN _ wr.heap.size rfl _ #[.int .i32 _] 1 1 rfl (by decide)) (by omega) (by have := HB.out.size; simp; omega) ?_
                         intro A4 c4 w4 hown4 hg4 _ _
                         have hb4 := below_own (HB.out.alloc HB.out.size _) (by have := HB.out.size; simp; omega) (HO.out.alloc _) hg4
                         have HB4 := Lib.hid hb4
                         have HO4 := Lib.hid hown4
                         clear hown4 hg4 hb4))
                    go_roundw
                    case rel =>
                      refine ⟨k + 1, by omega, by go_num, ⟨_, own_eq HO4.out ?_⟩, HB4.out⟩
                      rw [HSU.out, HSR.out]
                      clear HO4 HB4 HO HB HSU HSR HR
                      simp_all [signF, bi]
                    case measure => simp [intOf]; omega
                  · have g39 : (r == 39) = false := by simpa using e39
                    clear e39
                    go_wp2_with (first
                      | (go_at_call 76
                         refine (RText_any _ _ (by decide)).mono ?_
                         rintro e wt ⟨vt, rfl, ⟨nt, hot⟩, hbt⟩
                         obtain ⟨At, ct, rfl, hrt⟩ := own_form hot
                         have HT := Lib.hid hrt
                         have HOT := Lib.hid (own_below (HO.out.alloc _) hbt)
                         have HBT := Lib.hid (((HB.out.alloc HB.out.size _)).trans (hbt.mono (by have := HB.out.size; simp; omega)))
                         have hnt : nt ≤ 100 := by rw [rc_own_len hot]; decide
                         clear hrt hbt hot)
                      | (at_builtin
                         refine append_runes _ rfl (.tmp 91) (.tmp 92) rfl w.heap.size _ _ _ rfl HOT.out _ _ nt ct _ rfl HT.out (by omega) HBT.out.size ?_
                         intro A4 c4 w4 hown4 hg4 _ _
                         have hb4 := below_own HBT.out HBT.out.size HOT.out hg4
                         have HB4 := Lib.hid hb4
                         have HO4 := Lib.hid hown4
                         clear hown4 hg4 hb4)
                      | (at_builtin
                         refine append_runes _ rfl (.tmp 91) (.tmp 92) rfl w.heap.size _ _ _ rfl (HO.out.alloc _) _ _ 1 1 [_] rfl (Rd.litN _ wr.heap.size rfl _ #[.int .i32 _] 1 1 rfl (by decide)) (by omega) (by have := HB.out.size; simp; omega) ?_
                         intro A4 c4 w4 hown4 hg4 _ _
                         have hb4 := below_own (HB.out.alloc HB.out.size _) (by have := HB.out.size; simp; omega) (HO.out.alloc _) hg4
                         have HB4 := Lib.hid hb4
                         have HO4 := Lib.hid hown4
                         clear hown4 hg4 hb4))
                    go_roundw
                    case rel =>
                      refine ⟨k + 1, by omega, by go_num, ⟨_, own_eq HO4.out ?_⟩, HB4.out⟩
                      rw [HSU.out, HSR.out]
                      clear HO4 HB4 HO HB HSU HSR HR
                      simp_all [signF, bi]
                    case measure => simp [intOf]; omega
    · have e : k = l.length := by omega
      subst e
      go_wp2
      go_ret
      exact ⟨_, rfl, ⟨_, HO.out⟩, HB.out⟩

end Go.Proofs.Ytbbplpmaknaadaa
