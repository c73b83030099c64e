/-
  Layer 23 (escape): PI: the program's and the document's. Rows of at most 1000 runes, targets of at most 1000 bytes.
-/
import Derived.Test.YtbbplpmaknaadaaEscG
namespace Go.Proofs.Ytbbplpmaknaadaa
open Go.RowKit Go.Lib

def sepF (l : List Int) : List Int := if 0 < l.length then [32] else []
def pmO (tb : List UInt8) (l : List Int) : List Int := [60, 63] ++ runesF tb ++ sepF l ++ l ++ [63, 62]
def pmF (tb : List UInt8) (l : List Int) : Option (List Int) := match piF (pmO tb l) 0 (pmO tb l).length with
  | none => none
  | some r => if r.1 == tb && r.2 == l then some (pmO tb l) else none

set_option maxHeartbeats 2000000 in
set_option maxRecDepth 100000 in
theorem EPI_any (nm : ByteArray) (S : Nat → Prop) (A : Option Addr) (n c : Nat) (l : List Int) (w : World) (hr : Rd w S 1 A n c (rc l)) (hn9 : l.length ≤ 1000) (hnm : nm.size ≤ 1000) :
    Calls Try.prog 42 #[.string nm, .slice A n c] w fun e w' => OptV w' (pmF nm.data.toList l) e ∧ Below w.heap.size w w' := by
  obtain rfl := hr.rlen
  have hle := hr.le
  have hmx : c ≤ 9223372036854775807 := hr.max
  have HR := Lib.hid hr
  clear hr
  have HA := fun W => Lib.hid (ERunes_any ⟨#[60, 63]⟩ W (by decide))
  have hra : runesF (⟨#[60, 63]⟩ : ByteArray).data.toList = [60, 63] := by decide +kernel
  rw [hra] at HA
  have HZ := fun W => Lib.hid (ERunes_any ⟨#[63, 62]⟩ W (by decide))
  have hrz : runesF (⟨#[63, 62]⟩ : ByteArray).data.toList = [63, 62] := by decide +kernel
  rw [hrz] at HZ
  have HN := fun W => Lib.hid (ERunes_any nm W (by omega))
  have hrl : (runesF nm.data.toList).length ≤ 1000 := Nat.le_trans (runesF_len _) (by simpa using hnm)
  have hsl : (sepF l).length ≤ 1 := by unfold sepF; split <;> simp
  have hob : (pmO nm.data.toList l).length ≤ 3000 := by simp [pmO]; omega
  have HO : Hid ([[60, 63] ++ runesF nm.data.toList ++ sepF l, l, [63, 62]].flatten = pmO nm.data.toList l) := by simp [Hid, pmO]
  have HSEP : Hid (sepF l = if 0 < l.length then [32] else []) := rfl
  have HC : ∀ W S' A' c', Rd W S' 1 A' (pmO nm.data.toList l).length c' (rc (pmO nm.data.toList l)) → Hid (Calls Try.prog 67 #[.slice A' (pmO nm.data.toList l).length c', .int .i64 0, .int .i64 (pmO nm.data.toList l).length] W fun e w' => PIV w' (piF (pmO nm.data.toList l) 0 (pmO nm.data.toList l).length) e ∧ Below W.heap.size W w') :=
    fun W S' A' c' h => PI16_any S' A' _ c' (pmO nm.data.toList l) 0 (pmO nm.data.toList l).length W h (Nat.zero_le _) (Nat.le_refl _) (by omega)
  have HT : Hid (pmF nm.data.toList l = match piF (pmO nm.data.toList l) 0 (pmO nm.data.toList l).length with
    | none => none
    | some r => if r.1 == nm.data.toList && r.2 == l then some (pmO nm.data.toList l) else none) := rfl
  have HSUM1 : Hid (sumLen [[60, 63], runesF nm.data.toList] ≤ 1000000000) := by rw [Hid, sum2]; simp; omega
  have HSUM2 : Hid (sumLen [[60, 63] ++ runesF nm.data.toList ++ sepF l, l, [63, 62]] ≤ 1000000000) := by rw [Hid, sum3]; simp; omega
  have HF1 : Hid ([[60, 63], runesF nm.data.toList].flatten = [60, 63] ++ runesF nm.data.toList) := by simp [Hid]
  have hpl : ([60, 63] ++ runesF nm.data.toList).length ≤ 1002 := by simp; omega
  have HEQ := fun (t : List UInt8) (z : ByteArray) (h : z.data.toList = t) => Lib.hid (show (z.toList == nm.toList) = (t == nm.data.toList) by rw [ByteArray.toList_eq, ByteArray.toList_eq, h])
  generalize pmF nm.data.toList l = t at HT ⊢
  generalize piF (pmO nm.data.toList l) 0 (pmO nm.data.toList l).length = r at HC HT
  generalize pmO nm.data.toList l = o at HO HC HT hob
  generalize runesF nm.data.toList = rn at HN HO HSUM1 HSUM2 HF1 hpl hrl
  generalize [60, 63] ++ rn = p0 at HO HSUM2 HF1 hpl
  clear hra hrz hrl hsl
  go_enter Try.func42, Try.ntmps42
  go_wp2_with fail
  refine (HA _).out.mono ?_
  rintro e w1 ⟨v1, rfl, ⟨n1, ho1⟩, hb1⟩
  obtain ⟨A1, c1, rfl, hr1⟩ := own_form ho1
  go_wp2_with fail
  refine (HN _).out.mono ?_
  rintro e w2 ⟨v2, rfl, ⟨n2, ho2⟩, hb2⟩
  obtain ⟨A2, c2, rfl, hr2⟩ := own_form ho2
  have HV1 := Lib.hid ((RunesV.of_own ho1).below hb2)
  have HV2 := Lib.hid (RunesV.of_own ho2)
  have HB2 := Lib.hid (bt hb1 hb2)
  clear ho1 ho2 hr1 hr2 hb1 hb2
  go_wp2_with fail
  refine (Joined_any (some ⟨w2.heap.size, 0, none⟩) 2 2 [[60, 63], rn] _ _ (RowsV.lit _ _ rfl _ _ _ 2 rfl rfl (by decide) (RowsEach2 HV1.out HV2.out) _ rfl) HSUM1.out).mono ?_
  rintro e w3 ⟨v3, rfl, ⟨n3, ho3⟩, hb3⟩
  rw [HF1.out] at ho3
  obtain ⟨A3, c3, rfl, hr3⟩ := own_form ho3
  obtain rfl := hr3.rlen
  have hle3 := hr3.le
  have hmx3 : c3 ≤ 9223372036854775807 := hr3.max
  have HB3 := Lib.hid (bt HB2.out (bt (ba _ _) hb3))
  have HO3 := Lib.hid (own_base (base' := w.heap.size) ho3 (by have := HB2.out.size; simp; omega))
  have HV3 := Lib.hid (RunesV.of_own ho3)
  clear hr3 ho3 hb3 HSUM1 HA HN HB2 HV1 HV2 HF1
  by_cases hl0 : 0 < l.length
  · have hl0i : (l.length : Int) > 0 := by omega
    rw [HSEP.out, if_pos hl0] at HO HSUM2
    clear hl0
    go_wp2_with (first
      | (at_builtin
         refine append_runes _ rfl (.tmp 18) (.tmp 19) rfl w.heap.size _ p0.length p0 rfl (HO3.out.alloc _) _ _ 1 1 [32] rfl (Rd.litN _ w3.heap.size rfl _ #[.int .i32 32] 1 1 rfl (by decide)) (by omega) (by have := HB3.out.size; simp; omega) ?_
         intro A4 c4 w4 hown4 hg4 _ _
         have HB4 := Lib.hid (below_own (HB3.out.alloc HB3.out.size _) (by have := HB3.out.size; simp; omega) (HO3.out.alloc _) hg4)
         have HV4 := Lib.hid (RunesV.of_own hown4)
         clear hown4 hg4))
    refine (HZ _).out.mono ?_
    rintro e w5 ⟨v5, rfl, ⟨n5, ho5⟩, hb5⟩
    obtain ⟨A5, c5, rfl, hr5⟩ := own_form ho5
    have HB5 := Lib.hid (HB4.out.trans (hb5.mono HB4.out.size))
    have HV5 := Lib.hid (RunesV.of_own ho5)
    have HVP := Lib.hid (HV4.out.below hb5)
    have HRL := Lib.hid (RunesV.of_rd (HR.out.below HB5.out))
    clear hr5 ho5 hb5 HZ
    go_wp2_with fail
    refine (Joined_any (some ⟨w5.heap.size, 0, none⟩) 3 3 [p0 ++ [32], l, [63, 62]] _ _ (RowsV.lit _ _ rfl _ _ _ 3 rfl rfl (by decide) (RowsEach3 HVP.out HRL.out HV5.out) _ rfl) HSUM2.out).mono ?_
    rintro e w6 ⟨v6, rfl, ⟨n6, ho6⟩, hb6⟩
    rw [HO.out] at ho6
    obtain ⟨A6, c6, rfl, hr6⟩ := own_form ho6
    obtain rfl := hr6.rlen
    have hle6 := hr6.le
    have hmx6 : c6 ≤ 9223372036854775807 := hr6.max
    have HV6 := Lib.hid (RunesV.of_own ho6)
    have HB6 := Lib.hid (HB5.out.trans (((ba _ _).trans (hb6.mono (by simp))).mono HB5.out.size))
    have HC6 := HC _ _ _ _ hr6
    clear hr6 ho6 hb6 HC HSUM2 HRL HV5 HVP
    go_wp2_with fail
    refine HC6.out.mono ?_
    rintro e w7 ⟨⟨z, v7, rfl, hz, hv7⟩, hb7⟩
    have HB7 := Lib.hid (HB6.out.trans (hb7.mono HB6.out.size))
    have HV7 := Lib.hid (HV6.out.below hb7)
    clear hb7 HC6
    cases r with
    | none =>
      go_wp2
      go_ret2
      rw [HT.out]
      exact ⟨⟨_, rfl, .nil_ _⟩, HB7.out⟩
    | some td =>
      obtain ⟨td, d⟩ := td
      have hz : z.data.toList = td := hz
      have hv7 : RunesV w7 v7 d := hv7
      obtain ⟨A7, c7, rfl, hr7⟩ := hv7.lenB
      have hle7 := hr7.le
      have hmx7 : c7 ≤ 9223372036854775807 := hr7.max
      have hzq := (HEQ td z hz).out
      have HE := Lib.hid (Equal_any _ A7 d.length c7 d S A l.length c l w7 hr7 (HR.out.below HB7.out))
      have HT2 : Hid (t = if (td == nm.data.toList) && (d == l) then some o else none) := HT.out
      clear hz hr7 hv7 HT
      generalize (td == nm.data.toList) = b1 at hzq HT2
      generalize (d == l) = b2 at HE HT2
      cases b1 with
      | false =>
        have hzn : (z.toList != nm.toList) = true := by rw [bne, hzq]; rfl
        go_wp2
        go_ret2
        rw [HT2.out]
        exact ⟨⟨_, rfl, .nil_ _⟩, HB7.out⟩
      | true =>
        have hzn : (z.toList != nm.toList) = false := by rw [bne, hzq]; rfl
        go_wp2_with fail
        refine HE.out.mono ?_
        rintro e w8 ⟨rfl, hb8⟩
        have HB8 := Lib.hid (HB7.out.trans (hb8.mono HB7.out.size))
        have HV8 := Lib.hid (HV7.out.below hb8)
        clear hb8
        cases b2 with
        | false =>
          go_wp2
          go_ret2
          rw [HT2.out]
          exact ⟨⟨_, rfl, .nil_ _⟩, HB8.out⟩
        | true =>
          go_wp2
          go_ret2
          rw [HT2.out]
          exact ⟨⟨_, rfl, HV8.out⟩, HB8.out⟩
  · have hl0i : ¬ (l.length : Int) > 0 := by omega
    rw [HSEP.out, if_neg hl0, List.append_nil] at HO HSUM2
    clear hl0
    go_wp2_with fail
    refine (HZ _).out.mono ?_
    rintro e w5 ⟨v5, rfl, ⟨n5, ho5⟩, hb5⟩
    obtain ⟨A5, c5, rfl, hr5⟩ := own_form ho5
    have HB5 := Lib.hid (HB3.out.trans (hb5.mono HB3.out.size))
    have HV5 := Lib.hid (RunesV.of_own ho5)
    have HVP := Lib.hid (HV3.out.below hb5)
    have HRL := Lib.hid (RunesV.of_rd (HR.out.below HB5.out))
    clear hr5 ho5 hb5 HZ
    go_wp2_with fail
    refine (Joined_any (some ⟨w5.heap.size, 0, none⟩) 3 3 [p0, l, [63, 62]] _ _ (RowsV.lit _ _ rfl _ _ _ 3 rfl rfl (by decide) (RowsEach3 HVP.out HRL.out HV5.out) _ rfl) HSUM2.out).mono ?_
    rintro e w6 ⟨v6, rfl, ⟨n6, ho6⟩, hb6⟩
    rw [HO.out] at ho6
    obtain ⟨A6, c6, rfl, hr6⟩ := own_form ho6
    obtain rfl := hr6.rlen
    have hle6 := hr6.le
    have hmx6 : c6 ≤ 9223372036854775807 := hr6.max
    have HV6 := Lib.hid (RunesV.of_own ho6)
    have HB6 := Lib.hid (HB5.out.trans (((ba _ _).trans (hb6.mono (by simp))).mono HB5.out.size))
    have HC6 := HC _ _ _ _ hr6
    clear hr6 ho6 hb6 HC HSUM2 HRL HV5 HVP
    go_wp2_with fail
    refine HC6.out.mono ?_
    rintro e w7 ⟨⟨z, v7, rfl, hz, hv7⟩, hb7⟩
    have HB7 := Lib.hid (HB6.out.trans (hb7.mono HB6.out.size))
    have HV7 := Lib.hid (HV6.out.below hb7)
    clear hb7 HC6
    cases r with
    | none =>
      go_wp2
      go_ret2
      rw [HT.out]
      exact ⟨⟨_, rfl, .nil_ _⟩, HB7.out⟩
    | some td =>
      obtain ⟨td, d⟩ := td
      have hz : z.data.toList = td := hz
      have hv7 : RunesV w7 v7 d := hv7
      obtain ⟨A7, c7, rfl, hr7⟩ := hv7.lenB
      have hle7 := hr7.le
      have hmx7 : c7 ≤ 9223372036854775807 := hr7.max
      have hzq := (HEQ td z hz).out
      have HE := Lib.hid (Equal_any _ A7 d.length c7 d S A l.length c l w7 hr7 (HR.out.below HB7.out))
      have HT2 : Hid (t = if (td == nm.data.toList) && (d == l) then some o else none) := HT.out
      clear hz hr7 hv7 HT
      generalize (td == nm.data.toList) = b1 at hzq HT2
      generalize (d == l) = b2 at HE HT2
      cases b1 with
      | false =>
        have hzn : (z.toList != nm.toList) = true := by rw [bne, hzq]; rfl
        go_wp2
        go_ret2
        rw [HT2.out]
        exact ⟨⟨_, rfl, .nil_ _⟩, HB7.out⟩
      | true =>
        have hzn : (z.toList != nm.toList) = false := by rw [bne, hzq]; rfl
        go_wp2_with fail
        refine HE.out.mono ?_
        rintro e w8 ⟨rfl, hb8⟩
        have HB8 := Lib.hid (HB7.out.trans (hb8.mono HB7.out.size))
        have HV8 := Lib.hid (HV7.out.below hb8)
        clear hb8
        cases b2 with
        | false =>
          go_wp2
          go_ret2
          rw [HT2.out]
          exact ⟨⟨_, rfl, .nil_ _⟩, HB8.out⟩
        | true =>
          go_wp2
          go_ret2
          rw [HT2.out]
          exact ⟨⟨_, rfl, HV8.out⟩, HB8.out⟩


end Go.Proofs.Ytbbplpmaknaadaa
