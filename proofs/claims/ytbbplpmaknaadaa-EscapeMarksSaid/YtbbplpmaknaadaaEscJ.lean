/-
  Layer 23 (escape): CData: the program's and the document's. Rows of at most 1000 runes.
-/
import Derived.Test.YtbbplpmaknaadaaEscG
namespace Go.Proofs.Ytbbplpmaknaadaa
open Go.RowKit Go.Lib

/-- does a rune of a row have to stand in a new section? -/
def brkF (l : List Int) (k : Nat) : Bool := decide (2 ≤ k) && (l[k]? == some 62 && (l[k - 1]? == some 93 && l[k - 2]? == some 93))
def oneF (l : List Int) (k : Nat) : List Int := match l[k]? with
  | some r => [r]
  | none => []
def cdTo (l : List Int) : Nat → List Int
  | 0 => [60, 33, 91, 67, 68, 65, 84, 65, 91]
  | k + 1 => cdTo l k ++ (if brkF l k then [93, 93, 62, 60, 33, 91, 67, 68, 65, 84, 65, 91] else []) ++ oneF l k
def cdataF (l : List Int) : Option (List Int) := if l.all isChar && !l.contains 13 then some (cdTo l l.length ++ [93, 93, 62]) else none

theorem cdTo_len (l : List Int) : ∀ k, (cdTo l k).length ≤ 9 + 13 * k
  | 0 => by simp [cdTo]
  | k + 1 => by
    have := cdTo_len l k
    have h1 : (oneF l k).length ≤ 1 := by unfold oneF; split <;> simp
    simp only [cdTo, List.length_append]
    split <;> simp <;> omega
theorem cdTo_plain (l : List Int) (k : Nat) (hk : k < l.length) (h : brkF l k = false) : cdTo l (k + 1) = cdTo l k ++ [l[k]] := by
  rw [cdTo, h, oneF, List.getElem?_eq_getElem hk]; simp
theorem cdTo_brk (l : List Int) (k : Nat) (hk : k < l.length) (h : brkF l k = true) : cdTo l (k + 1) = cdTo l k ++ [93, 93, 62, 60, 33, 91, 67, 68, 65, 84, 65, 91] ++ [l[k]] := by
  rw [cdTo, h, oneF, List.getElem?_eq_getElem hk]; simp
theorem brk_at (l : List Int) (k : Nat) (hk : k < l.length) (h2 : 2 ≤ k) : brkF l k = (l[k] == 62 && (l[k - 1]'(by omega) == 93 && l[k - 2]'(by omega) == 93)) := by
  rw [brkF, decide_eq_true h2, List.getElem?_eq_getElem hk, List.getElem?_eq_getElem (show k - 1 < l.length by omega), List.getElem?_eq_getElem (show k - 2 < l.length by omega)]
  simp [Bool.beq_eq_decide_eq]
theorem brk_not (l : List Int) (k : Nat) (hk : k < l.length) (h : l[k] ≠ 62) : brkF l k = false := by
  rw [brkF, List.getElem?_eq_getElem hk]
  simp [h]
theorem brk_low (l : List Int) (k : Nat) (h : ¬ 2 ≤ k) : brkF l k = false := by rw [brkF, decide_eq_false h]; rfl

set_option maxHeartbeats 4000000 in
set_option maxRecDepth 100000 in
theorem CData_any (S : Nat → Prop) (A : Option Addr) (n c : Nat) (l : List Int) (w : World) (hr : Rd w S 1 A n c (rc l)) (hn9 : l.length ≤ 1000) :
    Calls Try.prog 44 #[.slice A n c] w fun e w' => OptV w' (cdataF l) e ∧ Below w.heap.size w w' := by
  obtain rfl := hr.rlen
  have hle := hr.le
  have hmx : c ≤ 9223372036854775807 := hr.max
  have HR := Lib.hid hr
  have HCH := Lib.hid (All_any S A l.length c l _ #[] isChar w eg_Char hr (Char_ok w))
  have HCT := fun W (h : Below w.heap.size w W) => Lib.hid (Contains_any S A l.length c l 13 W (HR.out.below h))
  have HA := fun W => Lib.hid (ERunes_any ⟨#[60, 33, 91, 67, 68, 65, 84, 65, 91]⟩ W (by decide))
  have hra : runesF (⟨#[60, 33, 91, 67, 68, 65, 84, 65, 91]⟩ : ByteArray).data.toList = [60, 33, 91, 67, 68, 65, 84, 65, 91] := by decide +kernel
  rw [hra] at HA
  have HZ := fun W => Lib.hid (ERunes_any ⟨#[93, 93, 62, 60, 33, 91, 67, 68, 65, 84, 65, 91]⟩ W (by decide))
  have hrz : runesF (⟨#[93, 93, 62, 60, 33, 91, 67, 68, 65, 84, 65, 91]⟩ : ByteArray).data.toList = [93, 93, 62, 60, 33, 91, 67, 68, 65, 84, 65, 91] := by decide +kernel
  rw [hrz] at HZ
  have HE := fun W => Lib.hid (ERunes_any ⟨#[93, 93, 62]⟩ W (by decide))
  have hre : runesF (⟨#[93, 93, 62]⟩ : ByteArray).data.toList = [93, 93, 62] := by decide +kernel
  rw [hre] at HE
  have HT : Hid (cdataF l = if l.all isChar && !l.contains 13 then some (cdTo l l.length ++ [93, 93, 62]) else none) := rfl
  have HTL := Lib.hid (cdTo_len l)
  generalize cdataF l = t at HT ⊢
  generalize l.all isChar = b1 at HCH HT
  generalize l.contains 13 = b2 at HCT HT
  clear hr hra hrz hre
  go_enter Try.func44, Try.ntmps44
  go_wp2_with fail
  refine HCH.out.mono ?_
  rintro e w1 ⟨rfl, hb1⟩
  have HB1 := Lib.hid hb1
  clear hb1 HCH
  cases b1 with
  | false =>
    go_wp2
    go_ret2
    rw [HT.out]
    exact ⟨⟨_, rfl, .nil_ _⟩, HB1.out⟩
  | true =>
    go_wp2_with fail
    refine (HCT _ HB1.out).out.mono ?_
    rintro e w2 ⟨rfl, hb2⟩
    have HB2 := Lib.hid (bt HB1.out hb2)
    clear hb2 HCT
    cases b2 with
    | true =>
      go_wp2
      go_ret2
      rw [HT.out]
      exact ⟨⟨_, rfl, .nil_ _⟩, HB2.out⟩
    | false =>
      go_wp2_with fail
      refine (HA _).out.mono ?_
      rintro e w3 ⟨v3, rfl, ⟨n3, ho3⟩, hb3⟩
      obtain ⟨A3, c3, rfl, hr3⟩ := own_form ho3
      have HB3 := Lib.hid (bt HB2.out hb3)
      have HO3 := Lib.hid (own_base (base' := w.heap.size) ho3 HB2.out.size)
      clear ho3 hr3 hb3 HA
      go_wp2
      go_loopw [4, 17] (fun v i wr => ∃ (k : Nat), k ≤ l.length ∧ i = .int .i64 k ∧ Hid (∃ n', wr.ownsRow w.heap.size 21 1 v n' (rc (cdTo l k))) ∧ Hid (Below w.heap.size w wr)) (fun _ i _ => l.length - (intOf i).toNat)
      case atStart => exact ⟨0, Nat.zero_le _, rfl, ⟨_, HO3.out⟩, HB3.out⟩
      case round =>
        obtain ⟨k, hk, rfl, HO, HB⟩ := hrel
        obtain ⟨no, HO⟩ := HO.out
        have hnb : no ≤ 20000 := by have := HTL.out k; rw [rc_own_len HO]; omega
        obtain ⟨Ao, co, rfl, hro⟩ := own_form HO
        have hco2 : co ≤ 9223372036854775807 := hro.max
        have HO := Lib.hid HO
        clear hro
        by_cases hlt : k < l.length
        · obtain ⟨b, u, rfl, hc0⟩ := (HR.out.below HB.out).rune hlt
          by_cases h62 : l[k] = 62
          · by_cases h2 : 2 ≤ k
            · have hki2 : (k : Int) ≥ 2 := by omega
              have hk1 : k - 1 < l.length := by omega
              have hk2 : k - 2 < l.length := by omega
              have hk1i : (k : Int) - 1 < (l.length : Int) := by omega
              have hk2i : (k : Int) - 2 < (l.length : Int) := by omega
              obtain ⟨b', u', hA, hc1⟩ := (HR.out.below HB.out).rune hk1
              injection hA with hA
              injection hA with e1 e2
              subst e1 e2
              obtain ⟨b', u', hA, hc2⟩ := (HR.out.below HB.out).rune hk2
              injection hA with hA
              injection hA with e1 e2
              subst e1 e2
              have hba := brk_at l k hlt h2
              have hbe := cdTo_brk l k hlt
              have hbp := cdTo_plain l k hlt
              rw [hba] at hbe hbp
              rw [h62] at hc0 hbe hbp
              clear hba h62
              by_cases h931 : l[k - 1] = 93
              · rw [h931] at hc1 hbe hbp
                clear h931
                by_cases h932 : l[k - 2] = 93
                · rw [h932] at hc2 hbe
                  have HBE := Lib.hid (hbe rfl)
                  clear h932 hbe hbp
                  go_wp2_with fail
                  refine (HZ _).out.mono ?_
                  rintro e w3 ⟨v3, rfl, ⟨n3, ho3⟩, hb3⟩
                  obtain ⟨A3, c3, rfl, hr3⟩ := own_form ho3
                  have hn3 : n3 ≤ 12 := by rw [rc_own_len ho3]; decide
                  have HO3 := Lib.hid (own_below HO.out hb3)
                  have HB3 := Lib.hid (HB.out.trans (hb3.mono HB.out.size))
                  have HR3 := Lib.hid hr3
                  clear ho3 hr3 hb3
                  go_wp2_with (first
                    | (at_builtin
                       refine append_runes _ rfl (.tmp 44) (.tmp 45) rfl w.heap.size _ no _ rfl HO3.out _ A3 n3 c3 [93, 93, 62, 60, 33, 91, 67, 68, 65, 84, 65, 91] rfl HR3.out (by omega) HB3.out.size ?_
                       intro A5 c5 w5 hown5 hg5 _ _
                       have HB5 := Lib.hid (below_own HB3.out HB3.out.size HO3.out hg5)
                       have HO5 := Lib.hid hown5
                       clear hown5 hg5)
                    | (at_builtin
                       refine append_runes _ rfl (.tmp 47) (.tmp 49) rfl w.heap.size _ (no + n3) _ rfl (HO5.out.alloc _) _ _ 1 1 [62] rfl (Rd.litN _ w5.heap.size rfl _ #[.int .i32 62] 1 1 rfl (by decide)) (by omega) (by have := HB5.out.size; simp; omega) ?_
                       intro A4 c4 w4 hown4 hg4 _ _
                       have HB4 := Lib.hid (below_own (HB5.out.alloc HB5.out.size _) (by have := HB5.out.size; simp; omega) (HO5.out.alloc _) hg4)
                       rw [← HBE.out] at hown4
                       have HO4 := Lib.hid hown4
                       clear hown4 hg4))
                  go_roundw
                  case rel => exact ⟨k + 1, by omega, by go_num, ⟨_, HO4.out⟩, HB4.out⟩
                  case measure => simp [intOf]; omega
                · have HBE := Lib.hid (hbp (by simpa using h932))
                  have h93f : (l[k - 2] == 93) = false := by simpa using h932
                  generalize l[k - 2] = r2 at hc2 h93f
                  clear h932 hbe hbp
                  go_wp2_with (first
                    | (at_builtin
                       refine append_runes _ rfl (.tmp 47) (.tmp 49) rfl w.heap.size _ no _ rfl (HO.out.alloc _) _ _ 1 1 [62] rfl (Rd.litN _ wr.heap.size rfl _ #[.int .i32 62] 1 1 rfl (by decide)) (by omega) (by have := HB.out.size; simp; omega) ?_
                       intro A4 c4 w4 hown4 hg4 _ _
                       have HB4 := Lib.hid (below_own (HB.out.alloc HB.out.size _) (by have := HB.out.size; simp; omega) (HO.out.alloc _) hg4)
                       rw [← HBE.out] at hown4
                       have HO4 := Lib.hid hown4
                       clear hown4 hg4))
                  go_roundw
                  case rel => exact ⟨k + 1, by omega, by go_num, ⟨_, HO4.out⟩, HB4.out⟩
                  case measure => simp [intOf]; omega
              · have HBE := Lib.hid (hbp (by simp [h931]))
                have h93f : (l[k - 1] == 93) = false := by simpa using h931
                generalize l[k - 1] = r1 at hc1 h93f
                clear h931 hbe hbp
                go_wp2_with (first
                  | (at_builtin
                     refine append_runes _ rfl (.tmp 47) (.tmp 49) rfl w.heap.size _ no _ rfl (HO.out.alloc _) _ _ 1 1 [62] rfl (Rd.litN _ wr.heap.size rfl _ #[.int .i32 62] 1 1 rfl (by decide)) (by omega) (by have := HB.out.size; simp; omega) ?_
                     intro A4 c4 w4 hown4 hg4 _ _
                     have HB4 := Lib.hid (below_own (HB.out.alloc HB.out.size _) (by have := HB.out.size; simp; omega) (HO.out.alloc _) hg4)
                     rw [← HBE.out] at hown4
                     have HO4 := Lib.hid hown4
                     clear hown4 hg4))
                go_roundw
                case rel => exact ⟨k + 1, by omega, by go_num, ⟨_, HO4.out⟩, HB4.out⟩
                case measure => simp [intOf]; omega
            · have hki2 : ¬ (k : Int) ≥ 2 := by omega
              have hbp := cdTo_plain l k hlt (brk_low l k h2)
              rw [h62] at hc0 hbp
              have HBE := Lib.hid hbp
              clear hbp h62 h2
              go_wp2_with (first
                | (at_builtin
                   refine append_runes _ rfl (.tmp 47) (.tmp 49) rfl w.heap.size _ no _ rfl (HO.out.alloc _) _ _ 1 1 [62] rfl (Rd.litN _ wr.heap.size rfl _ #[.int .i32 62] 1 1 rfl (by decide)) (by omega) (by have := HB.out.size; simp; omega) ?_
                   intro A4 c4 w4 hown4 hg4 _ _
                   have HB4 := Lib.hid (below_own (HB.out.alloc HB.out.size _) (by have := HB.out.size; simp; omega) (HO.out.alloc _) hg4)
                   rw [← HBE.out] at hown4
                   have HO4 := Lib.hid hown4
                   clear hown4 hg4))
              go_roundw
              case rel => exact ⟨k + 1, by omega, by go_num, ⟨_, HO4.out⟩, HB4.out⟩
              case measure => simp [intOf]; omega
          · have HBE := Lib.hid (cdTo_plain l k hlt (brk_not l k hlt h62))
            have h62f : (l[k] == 62) = false := by simpa using h62
            generalize l[k] = r at hc0 h62f HBE
            clear h62
            go_wp2_with (first
              | (at_builtin
                 refine append_runes _ rfl (.tmp 47) (.tmp 49) rfl w.heap.size _ no _ rfl (HO.out.alloc _) _ _ 1 1 [r] rfl (Rd.litN _ wr.heap.size rfl _ #[.int .i32 r] 1 1 rfl (by decide)) (by omega) (by have := HB.out.size; simp; omega) ?_
                 intro A4 c4 w4 hown4 hg4 _ _
                 have HB4 := Lib.hid (below_own (HB.out.alloc HB.out.size _) (by have := HB.out.size; simp; omega) (HO.out.alloc _) hg4)
                 rw [← HBE.out] at hown4
                 have HO4 := Lib.hid hown4
                 clear hown4 hg4))
            go_roundw
            case rel => exact ⟨k + 1, by omega, by go_num, ⟨_, HO4.out⟩, HB4.out⟩
            case measure => simp [intOf]; omega
        · have e : k = l.length := by omega
          rw [e] at HO
          have HTB : Hid (t = some (cdTo l l.length ++ [93, 93, 62])) := HT.out
          clear e HT
          generalize cdTo l l.length = acc at HO HTB
          go_wp2_with fail
          refine (HE _).out.mono ?_
          rintro e w4 ⟨v4, rfl, ⟨n4, ho4⟩, hb4⟩
          obtain ⟨A4, c4, rfl, hr4⟩ := own_form ho4
          have hn4 : n4 ≤ 3 := by rw [rc_own_len ho4]; decide
          have HO4 := Lib.hid (own_below HO.out hb4)
          have HB4 := Lib.hid (HB.out.trans (hb4.mono HB.out.size))
          have HR4 := Lib.hid hr4
          clear ho4 hr4 hb4
          go_wp2_with (first
            | (at_builtin
               refine append_runes _ rfl (.tmp 52) (.tmp 53) rfl w.heap.size _ no acc rfl HO4.out _ A4 n4 c4 [93, 93, 62] rfl HR4.out (by omega) HB4.out.size ?_
               intro A5 c5 w5 hown5 hg5 _ _
               have HB5 := Lib.hid (below_own HB4.out HB4.out.size HO4.out hg5)
               have HV5 := Lib.hid (RunesV.of_own hown5)
               clear hown5 hg5))
          go_ret2
          rw [HTB.out]
          exact ⟨⟨_, rfl, HV5.out⟩, HB5.out⟩

end Go.Proofs.Ytbbplpmaknaadaa
