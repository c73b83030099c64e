/-
  Layer 23 (escape): CData: the document's. Rows of at most 1000 runes.
-/
import Derived.Test.YtbbplpmaknaadaaEscJ
namespace Go.Proofs.Ytbbplpmaknaadaa
open Go.RowKit Go.Lib

set_option maxHeartbeats 4000000 in
set_option maxRecDepth 100000 in
theorem RCData_any (S : Nat → Prop) (A : Option Addr) (n c : Nat) (l : List Int) (w : World) (hr : Rd w S 1 A n c (rc l)) (hn9 : l.length ≤ 1000) :
    Calls Try.prog 45 #[.slice A n c] w fun e w' => OptV w' (cdataF l) e ∧ Below w.heap.size w w' := by
  obtain rfl := hr.rlen
  have hle := hr.le
  have hmx : c ≤ 9223372036854775807 := hr.max
  have HR := Lib.hid hr
  have HCH := Lib.hid (RChars_any S A l.length c l w hr (by omega))
  have HCT := Lib.hid (RHas_any S A l.length c l 13 w hr (by omega))
  have HA := fun W => Lib.hid (RRunes_any ⟨#[60, 33, 91, 67, 68, 65, 84, 65, 91]⟩ W (by decide))
  have hra : runesF (⟨#[60, 33, 91, 67, 68, 65, 84, 65, 91]⟩ : ByteArray).data.toList = [60, 33, 91, 67, 68, 65, 84, 65, 91] := by decide +kernel
  rw [hra] at HA
  have HT : Hid (cdataF l = if l.all isChar && !l.contains 13 then some (cdTo l l.length ++ [93, 93, 62]) else none) := rfl
  have HTL := Lib.hid (cdTo_len l)
  generalize cdataF l = t at HT ⊢
  generalize l.all isChar = b1 at HCH HT
  generalize l.contains 13 = b2 at HCT HT
  clear hr hra
  go_enter Try.func45, Try.ntmps45
  go_wp2_with fail
  refine HCH.out.mono ?_
  rintro e w1 ⟨rfl, rfl⟩
  clear HCH
  cases b1 with
  | false =>
    go_wp2
    go_ret2
    rw [HT.out]
    exact ⟨⟨_, rfl, .nil_ _⟩, Below.refl _ _⟩
  | true =>
    go_wp2_with fail
    refine HCT.out.mono ?_
    rintro e w2 ⟨rfl, rfl⟩
    clear HCT
    cases b2 with
    | true =>
      go_wp2
      go_ret2
      rw [HT.out]
      exact ⟨⟨_, rfl, .nil_ _⟩, Below.refl _ _⟩
    | false =>
      go_wp2_with fail
      refine (HA _).out.mono ?_
      rintro e w3 ⟨v3, rfl, ⟨n3, ho3⟩, hb3⟩
      obtain ⟨A3, c3, rfl, hr3⟩ := own_form ho3
      have HB3 := Lib.hid hb3
      have HO3 := Lib.hid ho3
      clear ho3 hr3 hb3
      go_wp2
      go_loopw [4, 16] (fun v i wr => ∃ (k : Nat), k ≤ l.length ∧ i = .int .i64 k ∧ Hid (∃ n', wr.ownsRow w.heap.size 21 1 v n' (rc (cdTo l k))) ∧ Hid (Below w.heap.size w wr)) (fun _ i _ => l.length - (intOf i).toNat)
      case atStart => exact ⟨0, Nat.zero_le _, rfl, ⟨_, HO3.out⟩, HB3.out⟩
      case round =>
        obtain ⟨k, hk, rfl, HO, HB⟩ := hrel
        obtain ⟨no, HO⟩ := HO.out
        have hnb : no ≤ 20000 := by have := HTL.out k; rw [rc_own_len HO]; omega
        obtain ⟨Ao, co, rfl, hro⟩ := own_form HO
        have hco2 : co ≤ 9223372036854775807 := hro.max
        have HO := Lib.hid HO
        clear hro
        by_cases hlt : k < l.length
        · obtain ⟨b, u, rfl, hc0⟩ := (HR.out.below HB.out).rune hlt
          have HC0 := Lib.hid (fun W (h : Below wr.heap.size wr W) => cell_keep h hc0)
          have HCK := Lib.hid (fun W (hw : Below w.heap.size w W) => (by
            obtain ⟨b2, u2, hA, h⟩ := (HR.out.below hw).rune hlt
            injection hA with hA
            injection hA with e1 e2
            subst e1 e2
            exact h : W.cell? ⟨b, u + k, none⟩ = some (.int .i32 l[k])))
          clear HC0
          have hki : (k : Int) < (l.length : Int) := by omega
          by_cases h2 : 2 ≤ k
          · have hki2 : (k : Int) > 1 := by omega
            by_cases h62 : l[k] = 62
            · have hk1 : k - 1 < l.length := by omega
              have hk2 : k - 2 < l.length := by omega
              have hk1i : (k : Int) - 1 < (l.length : Int) := by omega
              have hk2i : (k : Int) - 2 < (l.length : Int) := by omega
              obtain ⟨b', u', hA, hc1⟩ := (HR.out.below HB.out).rune hk1
              injection hA with hA
              injection hA with e1 e2
              subst e1 e2
              obtain ⟨b', u', hA, hc2⟩ := (HR.out.below HB.out).rune hk2
              injection hA with hA
              injection hA with e1 e2
              subst e1 e2
              have hba := brk_at l k hlt h2
              have hbe := cdTo_brk l k hlt
              have hbp := cdTo_plain l k hlt
              rw [hba] at hbe hbp
              rw [h62] at hc0 hbe hbp HCK
              clear hba h62
              by_cases h931 : l[k - 1] = 93
              · rw [h931] at hc1 hbe hbp
                clear h931
                by_cases h932 : l[k - 2] = 93
                · rw [h932] at hc2 hbe
                  have HBE := Lib.hid (hbe rfl)
                  clear h932 hbe hbp
                  go_wp2_with (first
                    | (at_builtin
                       refine append_runes _ rfl (.tmp 44) (.tmp 45) rfl w.heap.size _ no _ rfl (HO.out.alloc _) _ _ 3 3 [93, 93, 62] rfl (Rd.litN _ wr.heap.size rfl _ #[.int .i32 93, .int .i32 93, .int .i32 62] 1 3 rfl (by decide)) (by omega) (by have := HB.out.size; simp; omega) ?_
                       intro A5 c5 w5 hown5 hg5 _ _
                       have HB5 := Lib.hid (below_own (HB.out.alloc HB.out.size _) (by have := HB.out.size; simp; omega) (HO.out.alloc _) hg5)
                       have HO5 := Lib.hid hown5
                       clear hown5 hg5)
                    | (go_at_call 60
                       refine (HA _).out.mono ?_
                       rintro e w6 ⟨v6, rfl, ⟨n6, ho6⟩, hb6⟩
                       obtain ⟨A6, c6, rfl, hr6⟩ := own_form ho6
                       have hn6 : n6 ≤ 9 := by rw [rc_own_len ho6]; decide
                       have HO6 := Lib.hid (own_below HO5.out hb6)
                       have HB6 := Lib.hid (HB5.out.trans (hb6.mono HB5.out.size))
                       have HR6 := Lib.hid hr6
                       clear ho6 hr6 hb6)
                    | (at_builtin
                       refine append_runes _ rfl (.tmp 47) (.tmp 48) rfl w.heap.size _ (no + 3) _ rfl HO6.out _ A6 n6 c6 [60, 33, 91, 67, 68, 65, 84, 65, 91] rfl HR6.out (by omega) HB6.out.size ?_
                       intro A7 c7 w7 hown7 hg7 _ _
                       have HB7 := Lib.hid (below_own HB6.out HB6.out.size HO6.out hg7)
                       have HO7 := Lib.hid hown7
                       have hc7 := HCK.out w7 HB7.out
                       clear hown7 hg7)
                    | (at_builtin
                       refine append_runes _ rfl (.tmp 50) (.tmp 55) rfl w.heap.size _ (no + 3 + n6) _ rfl (HO7.out.alloc _) _ _ 1 1 [62] rfl (Rd.litN _ w7.heap.size rfl _ #[.int .i32 62] 1 1 rfl (by decide)) (by omega) (by have := HB7.out.size; simp; omega) ?_
                       intro A4 c4 w4 hown4 hg4 _ _
                       have HB4 := Lib.hid (below_own (HB7.out.alloc HB7.out.size _) (by have := HB7.out.size; simp; omega) (HO7.out.alloc _) hg4)
                       have hown4 := own_eq hown4 (show cdTo l k ++ [93, 93, 62] ++ [60, 33, 91, 67, 68, 65, 84, 65, 91] ++ [62] = cdTo l (k + 1) by rw [HBE.out]; simp)
                       have HO4 := Lib.hid hown4
                       clear hown4 hg4))
                  go_roundw
                  case rel => exact ⟨k + 1, by omega, by go_num, ⟨_, HO4.out⟩, HB4.out⟩
                  case measure => simp [intOf]; omega
                · have HBE := Lib.hid (hbp (by simpa using h932))
                  have h93f : (l[k - 2] == 93) = false := by simpa using h932
                  generalize l[k - 2] = r2 at hc2 h93f
                  clear h932 hbe hbp
                  go_wp2_with (first
                    | (at_builtin
                       refine append_runes _ rfl (.tmp 50) (.tmp 55) rfl w.heap.size _ no _ rfl (HO.out.alloc _) _ _ 1 1 [62] rfl (Rd.litN _ wr.heap.size rfl _ #[.int .i32 62] 1 1 rfl (by decide)) (by omega) (by have := HB.out.size; simp; omega) ?_
                       intro A4 c4 w4 hown4 hg4 _ _
                       have HB4 := Lib.hid (below_own (HB.out.alloc HB.out.size _) (by have := HB.out.size; simp; omega) (HO.out.alloc _) hg4)
                       rw [← HBE.out] at hown4
                       have HO4 := Lib.hid hown4
                       clear hown4 hg4))
                  go_roundw
                  case rel => exact ⟨k + 1, by omega, by go_num, ⟨_, HO4.out⟩, HB4.out⟩
                  case measure => simp [intOf]; omega
              · have HBE := Lib.hid (hbp (by simp [h931]))
                have h93f : (l[k - 1] == 93) = false := by simpa using h931
                generalize l[k - 1] = r1 at hc1 h93f
                clear h931 hbe hbp
                go_wp2_with (first
                  | (at_builtin
                     refine append_runes _ rfl (.tmp 50) (.tmp 55) rfl w.heap.size _ no _ rfl (HO.out.alloc _) _ _ 1 1 [62] rfl (Rd.litN _ wr.heap.size rfl _ #[.int .i32 62] 1 1 rfl (by decide)) (by omega) (by have := HB.out.size; simp; omega) ?_
                     intro A4 c4 w4 hown4 hg4 _ _
                     have HB4 := Lib.hid (below_own (HB.out.alloc HB.out.size _) (by have := HB.out.size; simp; omega) (HO.out.alloc _) hg4)
                     rw [← HBE.out] at hown4
                     have HO4 := Lib.hid hown4
                     clear hown4 hg4))
                go_roundw
                case rel => exact ⟨k + 1, by omega, by go_num, ⟨_, HO4.out⟩, HB4.out⟩
                case measure => simp [intOf]; omega
            · have HBE := Lib.hid (cdTo_plain l k hlt (brk_not l k hlt h62))
              have h62f : (l[k] == 62) = false := by simpa using h62
              generalize l[k] = r at hc0 h62f HBE HCK
              clear h62
              go_wp2_with (first
                | (at_builtin
                   refine append_runes _ rfl (.tmp 50) (.tmp 55) rfl w.heap.size _ no _ rfl (HO.out.alloc _) _ _ 1 1 [r] rfl (Rd.litN _ wr.heap.size rfl _ #[.int .i32 r] 1 1 rfl (by decide)) (by omega) (by have := HB.out.size; simp; omega) ?_
                   intro A4 c4 w4 hown4 hg4 _ _
                   have HB4 := Lib.hid (below_own (HB.out.alloc HB.out.size _) (by have := HB.out.size; simp; omega) (HO.out.alloc _) hg4)
                   rw [← HBE.out] at hown4
                   have HO4 := Lib.hid hown4
                   clear hown4 hg4))
              go_roundw
              case rel => exact ⟨k + 1, by omega, by go_num, ⟨_, HO4.out⟩, HB4.out⟩
              case measure => simp [intOf]; omega
          · have hki2 : ¬ (k : Int) > 1 := by omega
            have HBE := Lib.hid (cdTo_plain l k hlt (brk_low l k h2))
            generalize l[k] = r at hc0 HBE HCK
            clear h2
            go_wp2_with (first
              | (at_builtin
                 refine append_runes _ rfl (.tmp 50) (.tmp 55) rfl w.heap.size _ no _ rfl (HO.out.alloc _) _ _ 1 1 [r] rfl (Rd.litN _ wr.heap.size rfl _ #[.int .i32 r] 1 1 rfl (by decide)) (by omega) (by have := HB.out.size; simp; omega) ?_
                 intro A4 c4 w4 hown4 hg4 _ _
                 have HB4 := Lib.hid (below_own (HB.out.alloc HB.out.size _) (by have := HB.out.size; simp; omega) (HO.out.alloc _) hg4)
                 rw [← HBE.out] at hown4
                 have HO4 := Lib.hid hown4
                 clear hown4 hg4))
            go_roundw
            case rel => exact ⟨k + 1, by omega, by go_num, ⟨_, HO4.out⟩, HB4.out⟩
            case measure => simp [intOf]; omega
        · have e : k = l.length := by omega
          rw [e] at HO
          have HTB : Hid (t = some (cdTo l l.length ++ [93, 93, 62])) := HT.out
          clear e HT
          generalize cdTo l l.length = acc at HO HTB
          go_wp2_with (first
            | (at_builtin
               refine append_runes _ rfl (.tmp 58) (.tmp 59) rfl w.heap.size _ no acc rfl (HO.out.alloc _) _ _ 3 3 [93, 93, 62] rfl (Rd.litN _ wr.heap.size rfl _ #[.int .i32 93, .int .i32 93, .int .i32 62] 1 3 rfl (by decide)) (by omega) (by have := HB.out.size; simp; omega) ?_
               intro A5 c5 w5 hown5 hg5 _ _
               have HB5 := Lib.hid (below_own (HB.out.alloc HB.out.size _) (by have := HB.out.size; simp; omega) (HO.out.alloc _) hg5)
               have HV5 := Lib.hid (RunesV.of_own hown5)
               clear hown5 hg5))
          go_ret2
          rw [HTB.out]
          exact ⟨⟨_, rfl, HV5.out⟩, HB5.out⟩

end Go.Proofs.Ytbbplpmaknaadaa
