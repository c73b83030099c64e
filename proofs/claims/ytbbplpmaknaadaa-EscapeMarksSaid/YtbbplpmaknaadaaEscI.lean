/-
  Layer 23 (escape): PI: the document's. Rows of at most 1000 runes, targets of at most 1000 bytes.
-/
import Derived.Test.YtbbplpmaknaadaaEscH
namespace Go.Proofs.Ytbbplpmaknaadaa
open Go.RowKit Go.Lib

set_option maxHeartbeats 2000000 in
set_option maxRecDepth 100000 in
theorem RPI_any (nm : ByteArray) (S : Nat → Prop) (A : Option Addr) (n c : Nat) (l : List Int) (w : World) (hr : Rd w S 1 A n c (rc l)) (hn9 : l.length ≤ 1000) (hnm : nm.size ≤ 1000) (hi : I32 l) :
    Calls Try.prog 43 #[.string nm, .slice A n c] w fun e w' => OptV w' (pmF nm.data.toList l) e ∧ Below w.heap.size w w' := by
  obtain rfl := hr.rlen
  have hle := hr.le
  have hmx : c ≤ 9223372036854775807 := hr.max
  have HR := Lib.hid hr
  clear hr
  have HN := fun W => Lib.hid (RRunes_any nm W (by omega))
  have hrl : (runesF nm.data.toList).length ≤ 1000 := Nat.le_trans (runesF_len _) (by simpa using hnm)
  have hsl : (sepF l).length ≤ 1 := by unfold sepF; split <;> simp
  have hob : (pmO nm.data.toList l).length ≤ 3000 := by simp [pmO]; omega
  have hio : I32 (pmO nm.data.toList l) := (((I32.append (by unfold I32; decide) (runesF_i32 _)).append (by unfold sepF I32; split <;> decide)).append hi).append (by unfold I32; decide)
  have HO : Hid ([60, 63] ++ runesF nm.data.toList ++ sepF l ++ l ++ [63, 62] = pmO nm.data.toList l) := rfl
  have HSEP : Hid (sepF l = if 0 < l.length then [32] else []) := rfl
  have HC : ∀ W S' A' c', Rd W S' 1 A' (pmO nm.data.toList l).length c' (rc (pmO nm.data.toList l)) → Hid (Calls Try.prog 69 #[.slice A' (pmO nm.data.toList l).length c', .int .i64 0, .int .i64 (pmO nm.data.toList l).length] W fun e w' => PIV w' (piF (pmO nm.data.toList l) 0 (pmO nm.data.toList l).length) e ∧ Below W.heap.size W w') :=
    fun W S' A' c' h => RPI16_any S' A' _ c' (pmO nm.data.toList l) 0 (pmO nm.data.toList l).length W h (Nat.zero_le _) (Nat.le_refl _) (by omega) hio
  have HT : Hid (pmF nm.data.toList l = match piF (pmO nm.data.toList l) 0 (pmO nm.data.toList l).length with
    | none => none
    | some r => if r.1 == nm.data.toList && r.2 == l then some (pmO nm.data.toList l) else none) := rfl
  have HEQ := fun (t : List UInt8) (z : ByteArray) (h : z.data.toList = t) => Lib.hid (show (z.toList == nm.toList) = (t == nm.data.toList) by rw [ByteArray.toList_eq, ByteArray.toList_eq, h])
  generalize pmF nm.data.toList l = t at HT ⊢
  generalize piF (pmO nm.data.toList l) 0 (pmO nm.data.toList l).length = r at HC HT
  generalize pmO nm.data.toList l = o at HO HC HT hob hio
  generalize runesF nm.data.toList = rn at HN HO hrl
  clear hsl hi hio
  go_enter Try.func43, Try.ntmps43
  go_wp2_with fail
  refine (HN _).out.mono ?_
  rintro e w1 ⟨v1, rfl, ⟨n1, ho1⟩, hb1⟩
  obtain ⟨A1, c1, rfl, hr1⟩ := own_form ho1
  obtain rfl := hr1.rlen
  have HOL := Lib.hid (own_below (own_litN w _ rfl 21 #[.int .i32 60, .int .i32 63] 1 2 rfl (by decide) (rc [60, 63]) rfl) hb1)
  have HB1 := Lib.hid (bt (ba w (.cells #[.int .i32 60, .int .i32 63] 21)) hb1)
  have HR1 := Lib.hid hr1
  clear ho1 hr1 hb1 HN
  by_cases hl0 : 0 < l.length
  · have hl0i : (l.length : Int) > 0 := by omega
    rw [HSEP.out, if_pos hl0] at HO
    have HLA := Lib.hid (show 2 + rn.length + 1 + l.length + 2 = o.length by rw [← HO.out]; simp; omega)
    clear hl0
    go_wp2_with (first
      | (at_builtin
         refine append_runes _ rfl (.tmp 11) (.tmp 13) rfl w.heap.size _ 2 [60, 63] rfl HOL.out _ A1 rn.length c1 rn rfl HR1.out (by omega) HB1.out.size ?_
         intro A3 c3 w3 hown3 hg3 _ _
         have HB3 := Lib.hid (below_own HB1.out HB1.out.size HOL.out hg3)
         have HO3 := Lib.hid hown3
         clear hown3 hg3)
      | (at_builtin
         refine append_runes _ rfl (.tmp 18) (.tmp 19) rfl w.heap.size _ (2 + rn.length) ([60, 63] ++ rn) rfl (HO3.out.alloc _) _ _ 1 1 [32] rfl (Rd.litN _ w3.heap.size rfl _ #[.int .i32 32] 1 1 rfl (by decide)) (by omega) (by have := HB3.out.size; simp; omega) ?_
         intro A4 c4 w4 hown4 hg4 _ _
         have HB4 := Lib.hid (below_own (HB3.out.alloc HB3.out.size _) (by have := HB3.out.size; simp; omega) (HO3.out.alloc _) hg4)
         have HO4 := Lib.hid hown4
         clear hown4 hg4)
      | (at_builtin
         refine append_runes _ rfl (.tmp 21) (.tmp 22) rfl w.heap.size _ (2 + rn.length + 1) ([60, 63] ++ rn ++ [32]) rfl HO4.out _ A l.length c l rfl (HR.out.below HB4.out) (by omega) HB4.out.size ?_
         intro A5 c5 w5 hown5 hg5 _ _
         have HB5 := Lib.hid (below_own HB4.out HB4.out.size HO4.out hg5)
         have HO5 := Lib.hid hown5
         clear hown5 hg5)
      | (at_builtin
         refine append_runes _ rfl (.tmp 24) (.tmp 25) rfl w.heap.size _ (2 + rn.length + 1 + l.length) ([60, 63] ++ rn ++ [32] ++ l) rfl (HO5.out.alloc _) _ _ 2 2 [63, 62] rfl (Rd.litN _ w5.heap.size rfl _ #[.int .i32 63, .int .i32 62] 1 2 rfl (by decide)) (by omega) (by have := HB5.out.size; simp; omega) ?_
         intro A6 c6 w6 hown6 hg6 _ _
         have HB6 := Lib.hid (below_own (HB5.out.alloc HB5.out.size _) (by have := HB5.out.size; simp; omega) (HO5.out.alloc _) hg6)
         rw [HO.out] at hown6
         rw [HLA.out] at hown6
         rw [HLA.out]
         have HO6 := Lib.hid hown6
         clear hown6 hg6))
    have hr6 := Rd.of_own HO6.out
    have hle6 := hr6.le
    have hmx6 : c6 ≤ 9223372036854775807 := hr6.max
    have HV6 := Lib.hid (RunesV.of_rd hr6)
    have HC6 := HC _ _ _ _ hr6
    clear hr6 HC
    refine HC6.out.mono ?_
    rintro e w7 ⟨⟨z, v7, rfl, hz, hv7⟩, hb7⟩
    have HB7 := Lib.hid (HB6.out.trans (hb7.mono HB6.out.size))
    have HV7 := Lib.hid (HV6.out.below hb7)
    clear hb7 HC6
    cases r with
    | none =>
      go_wp2
      go_ret2
      rw [HT.out]
      exact ⟨⟨_, rfl, .nil_ _⟩, HB7.out⟩
    | some td =>
      obtain ⟨td, d⟩ := td
      have hz : z.data.toList = td := hz
      have hv7 : RunesV w7 v7 d := hv7
      obtain ⟨A7, c7, rfl, hr7⟩ := hv7.lenB
      have hle7 := hr7.le
      have hmx7 : c7 ≤ 9223372036854775807 := hr7.max
      have hzq := (HEQ td z hz).out
      have HR7 := Lib.hid hr7
      have HT2 : Hid (t = if (td == nm.data.toList) && (d == l) then some o else none) := HT.out
      clear hz hr7 hv7 HT
      generalize (td == nm.data.toList) = b1 at hzq HT2
      cases b1 with
      | false =>
        have hzn : (z.toList != nm.toList) = true := by rw [bne, hzq]; rfl
        go_wp2
        go_ret2
        rw [HT2.out]
        exact ⟨⟨_, rfl, .nil_ _⟩, HB7.out⟩
      | true =>
        have hzn : (z.toList != nm.toList) = false := by rw [bne, hzq]; rfl
        by_cases hdl : d.length = l.length
        · have HDL := Lib.hid hdl
          have hdb : ((d.length : Int) != (l.length : Int)) = false := by rw [show (d.length : Int) = (l.length : Int) by omega]; simp
          have hd1 : d.length ≤ l.length := by omega
          have hd2 : l.length ≤ d.length := by omega
          clear hdl
          go_wp2
          go_loopw [51] (fun i wr => ∃ (j : Nat), j ≤ l.length ∧ i = .int .i64 j ∧ Hid (d.take j = l.take j) ∧ Hid (Below w7.heap.size w7 wr)) (fun i _ => l.length - (intOf i).toNat)
          case atStart => exact ⟨0, Nat.zero_le _, rfl, rfl, Below.refl _ _⟩
          case round =>
            obtain ⟨j, hj, rfl, HS, HBJ⟩ := hrel
            by_cases hlt : j < l.length
            · have hlt2 : j < d.length := by omega
              have hji : (j : Int) < (l.length : Int) := by omega
              have hji2 : (j : Int) < (d.length : Int) := by omega
              obtain ⟨bk, oo, rfl, hc0⟩ := (HR.out.below (HB7.out.trans (HBJ.out.mono HB7.out.size))).rune hlt
              obtain ⟨bk2, o2, rfl, hc1⟩ := (HR7.out.below HBJ.out).rune hlt2
              by_cases hq : d[j] = l[j]
              · have HS2 : Hid (d.take (j + 1) = l.take (j + 1)) := by rw [Hid, List.take_succ_eq_append_getElem hlt, List.take_succ_eq_append_getElem hlt2, HS.out, hq]
                have hqb : (d[j] != l[j]) = false := by simpa using hq
                clear hq
                generalize l[j] = x at hc0 hqb
                generalize d[j] = y at hc1 hqb
                go_wp2
                go_quiet (fail)
                go_wp2
                go_roundw
                case rel => exact ⟨j + 1, by omega, by go_num, HS2.out, below_drewN HBJ.out _⟩
                case measure => simp [intOf]; omega
              · have HE : Hid ((d == l) = false) := by
                  rw [Hid, beq_eq_false_iff_ne]
                  rintro rfl
                  exact hq rfl
                have hqb : (d[j] != l[j]) = true := by simpa using hq
                clear hq
                generalize l[j] = x at hc0 hqb
                generalize d[j] = y at hc1 hqb
                go_wp2
                go_quiet (fail)
                go_wp2
                go_ret2
                rw [HT2.out, HE.out]
                exact ⟨⟨_, rfl, .nil_ _⟩, below_drewN (HB7.out.trans (HBJ.out.mono HB7.out.size)) _⟩
            · have HE : Hid ((d == l) = true) := by
                have e : j = l.length := by omega
                have := HS.out
                rw [e, List.take_length, ← HDL.out, List.take_length] at this
                rw [Hid, this, beq_self_eq_true]
              go_wp2
              go_ret2
              rw [HT2.out, HE.out]
              exact ⟨⟨_, rfl, HV7.out.below HBJ.out⟩, HB7.out.trans (HBJ.out.mono HB7.out.size)⟩
        · have hdb : ((d.length : Int) != (l.length : Int)) = true := by simp; omega
          have HE : Hid ((d == l) = false) := by
            rw [Hid, beq_eq_false_iff_ne]
            rintro rfl
            exact hdl rfl
          go_wp2
          go_ret2
          rw [HT2.out, HE.out]
          exact ⟨⟨_, rfl, .nil_ _⟩, HB7.out⟩
  · have hl0i : ¬ (l.length : Int) > 0 := by omega
    rw [HSEP.out, if_neg hl0, List.append_nil] at HO
    have HLA := Lib.hid (show 2 + rn.length + l.length + 2 = o.length by rw [← HO.out]; simp; omega)
    clear hl0
    go_wp2_with (first
      | (at_builtin
         refine append_runes _ rfl (.tmp 11) (.tmp 13) rfl w.heap.size _ 2 [60, 63] rfl HOL.out _ A1 rn.length c1 rn rfl HR1.out (by omega) HB1.out.size ?_
         intro A4 c4 w4 hown4 hg4 _ _
         have HB4 := Lib.hid (below_own HB1.out HB1.out.size HOL.out hg4)
         have HO4 := Lib.hid hown4
         clear hown4 hg4)
      | (at_builtin
         refine append_runes _ rfl (.tmp 21) (.tmp 22) rfl w.heap.size _ (2 + rn.length) ([60, 63] ++ rn) rfl HO4.out _ A l.length c l rfl (HR.out.below HB4.out) (by omega) HB4.out.size ?_
         intro A5 c5 w5 hown5 hg5 _ _
         have HB5 := Lib.hid (below_own HB4.out HB4.out.size HO4.out hg5)
         have HO5 := Lib.hid hown5
         clear hown5 hg5)
      | (at_builtin
         refine append_runes _ rfl (.tmp 24) (.tmp 25) rfl w.heap.size _ (2 + rn.length + l.length) ([60, 63] ++ rn ++ l) rfl (HO5.out.alloc _) _ _ 2 2 [63, 62] rfl (Rd.litN _ w5.heap.size rfl _ #[.int .i32 63, .int .i32 62] 1 2 rfl (by decide)) (by omega) (by have := HB5.out.size; simp; omega) ?_
         intro A6 c6 w6 hown6 hg6 _ _
         have HB6 := Lib.hid (below_own (HB5.out.alloc HB5.out.size _) (by have := HB5.out.size; simp; omega) (HO5.out.alloc _) hg6)
         rw [HO.out] at hown6
         rw [HLA.out] at hown6
         rw [HLA.out]
         have HO6 := Lib.hid hown6
         clear hown6 hg6))
    have hr6 := Rd.of_own HO6.out
    have hle6 := hr6.le
    have hmx6 : c6 ≤ 9223372036854775807 := hr6.max
    have HV6 := Lib.hid (RunesV.of_rd hr6)
    have HC6 := HC _ _ _ _ hr6
    clear hr6 HC
    refine HC6.out.mono ?_
    rintro e w7 ⟨⟨z, v7, rfl, hz, hv7⟩, hb7⟩
    have HB7 := Lib.hid (HB6.out.trans (hb7.mono HB6.out.size))
    have HV7 := Lib.hid (HV6.out.below hb7)
    clear hb7 HC6
    cases r with
    | none =>
      go_wp2
      go_ret2
      rw [HT.out]
      exact ⟨⟨_, rfl, .nil_ _⟩, HB7.out⟩
    | some td =>
      obtain ⟨td, d⟩ := td
      have hz : z.data.toList = td := hz
      have hv7 : RunesV w7 v7 d := hv7
      obtain ⟨A7, c7, rfl, hr7⟩ := hv7.lenB
      have hle7 := hr7.le
      have hmx7 : c7 ≤ 9223372036854775807 := hr7.max
      have hzq := (HEQ td z hz).out
      have HR7 := Lib.hid hr7
      have HT2 : Hid (t = if (td == nm.data.toList) && (d == l) then some o else none) := HT.out
      clear hz hr7 hv7 HT
      generalize (td == nm.data.toList) = b1 at hzq HT2
      cases b1 with
      | false =>
        have hzn : (z.toList != nm.toList) = true := by rw [bne, hzq]; rfl
        go_wp2
        go_ret2
        rw [HT2.out]
        exact ⟨⟨_, rfl, .nil_ _⟩, HB7.out⟩
      | true =>
        have hzn : (z.toList != nm.toList) = false := by rw [bne, hzq]; rfl
        by_cases hdl : d.length = l.length
        · have HDL := Lib.hid hdl
          have hdb : ((d.length : Int) != (l.length : Int)) = false := by rw [show (d.length : Int) = (l.length : Int) by omega]; simp
          have hd1 : d.length ≤ l.length := by omega
          have hd2 : l.length ≤ d.length := by omega
          clear hdl
          go_wp2
          go_loopw [51] (fun i wr => ∃ (j : Nat), j ≤ l.length ∧ i = .int .i64 j ∧ Hid (d.take j = l.take j) ∧ Hid (Below w7.heap.size w7 wr)) (fun i _ => l.length - (intOf i).toNat)
          case atStart => exact ⟨0, Nat.zero_le _, rfl, rfl, Below.refl _ _⟩
          case round =>
            obtain ⟨j, hj, rfl, HS, HBJ⟩ := hrel
            by_cases hlt : j < l.length
            · have hlt2 : j < d.length := by omega
              have hji : (j : Int) < (l.length : Int) := by omega
              have hji2 : (j : Int) < (d.length : Int) := by omega
              obtain ⟨bk, oo, rfl, hc0⟩ := (HR.out.below (HB7.out.trans (HBJ.out.mono HB7.out.size))).rune hlt
              obtain ⟨bk2, o2, rfl, hc1⟩ := (HR7.out.below HBJ.out).rune hlt2
              by_cases hq : d[j] = l[j]
              · have HS2 : Hid (d.take (j + 1) = l.take (j + 1)) := by rw [Hid, List.take_succ_eq_append_getElem hlt, List.take_succ_eq_append_getElem hlt2, HS.out, hq]
                have hqb : (d[j] != l[j]) = false := by simpa using hq
                clear hq
                generalize l[j] = x at hc0 hqb
                generalize d[j] = y at hc1 hqb
                go_wp2
                go_quiet (fail)
                go_wp2
                go_roundw
                case rel => exact ⟨j + 1, by omega, by go_num, HS2.out, below_drewN HBJ.out _⟩
                case measure => simp [intOf]; omega
              · have HE : Hid ((d == l) = false) := by
                  rw [Hid, beq_eq_false_iff_ne]
                  rintro rfl
                  exact hq rfl
                have hqb : (d[j] != l[j]) = true := by simpa using hq
                clear hq
                generalize l[j] = x at hc0 hqb
                generalize d[j] = y at hc1 hqb
                go_wp2
                go_quiet (fail)
                go_wp2
                go_ret2
                rw [HT2.out, HE.out]
                exact ⟨⟨_, rfl, .nil_ _⟩, below_drewN (HB7.out.trans (HBJ.out.mono HB7.out.size)) _⟩
            · have HE : Hid ((d == l) = true) := by
                have e : j = l.length := by omega
                have := HS.out
                rw [e, List.take_length, ← HDL.out, List.take_length] at this
                rw [Hid, this, beq_self_eq_true]
              go_wp2
              go_ret2
              rw [HT2.out, HE.out]
              exact ⟨⟨_, rfl, HV7.out.below HBJ.out⟩, HB7.out.trans (HBJ.out.mono HB7.out.size)⟩
        · have hdb : ((d.length : Int) != (l.length : Int)) = true := by simp; omega
          have HE : Hid ((d == l) = false) := by
            rw [Hid, beq_eq_false_iff_ne]
            rintro rfl
            exact hdl rfl
          go_wp2
          go_ret2
          rw [HT2.out, HE.out]
          exact ⟨⟨_, rfl, .nil_ _⟩, HB7.out⟩

end Go.Proofs.Ytbbplpmaknaadaa
