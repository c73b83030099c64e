/-
  Layer 23 (escape): the statements EscapeValues, and the example.
-/
import Derived.Test.YtbbplpmaknaadaaEscE
namespace Go.Proofs.Ytbbplpmaknaadaa
open Go.RowKit Go.Lib

set_option maxHeartbeats 1000000 in
set_option maxRecDepth 100000 in
theorem awake23 (w : World) : Calls Try.prog 34 #[] w fun e w' => e = .returned (.bool true) ∧ Below w.heap.size w w' := by
  have hs : startF ((⟨#[97]⟩ : ByteArray).data.toList) false [(⟨#[120]⟩, [49, 34, 50])] = some [60, 97, 32, 120, 61, 39, 49, 34, 50, 39, 62] := by decide +kernel
  go_enter Try.func34, Try.ntmps34
  go_wp2_with fail
  refine (Start_any ⟨#[97]⟩ false (fun _ => True) (some ⟨w.heap.size + 1, 0, none⟩) 1 1 [(⟨#[120]⟩, [49, 34, 50])] [.slice (some ⟨w.heap.size, 0, none⟩) 3 3] _
    ⟨(Rd.litN _ (w.heap.size + 1) (by simp) _ #[.string ⟨#[120]⟩, .slice (some ⟨w.heap.size, 0, none⟩) 3 3] 2 1 rfl (by decide)).more fun _ _ => trivial, rfl, fun k h _ => by
      have e : k = 0 := by simp at h; omega
      subst e
      exact (RunesV.lit w _ rfl _ [49, 34, 50] 3 rfl (by decide) _ rfl).alloc _⟩ (by decide) (by decide) (by decide)).mono ?_
  rintro e w1 ⟨⟨v, rfl, hrv⟩, hb⟩
  rw [hs] at hrv
  have hrv : RunesV w1 v [60, 97, 32, 120, 61, 39, 49, 34, 50, 39, 62] := hrv
  obtain ⟨A1, c1, rfl, hr1⟩ := hrv.len
  have hcv := run_runes_string hr1 22 9 21 Try.underlying22 Try.underlying21 Try.underlying9
  rw [show runesBytes [60, 97, 32, 120, 61, 39, 49, 34, 50, 39, 62] = ⟨#[60, 97, 32, 120, 61, 39, 49, 34, 50, 39, 62]⟩ by decide +kernel] at hcv
  have hcv2 : (convert 22 9 (.slice A1 11 c1)).run Try.prog w1 = .ok (.string ⟨#[60, 97, 32, 120, 61, 39, 49, 34, 50, 39, 62]⟩) w1 := hcv
  clear hcv
  rw [hs]
  have HB1 := Lib.hid (bt (bt (ba _ _) (ba _ _)) hb)
  clear hrv hb hr1
  go_wp2
  go_ret
  exact ⟨rfl, HB1.out⟩

set_option maxHeartbeats 2000000 in
set_option maxRecDepth 100000 in
theorem EscapeValues_any (S : Nat → Prop) (A : Option Addr) (n c : Nat) (l : List Int) (q : Int) (s : ByteArray) (w : World) (hr : Rd w S 1 A n c (rc l)) :
    Calls Try.prog 7 #[.slice A n c, .int .i32 q, .string s] w fun e w' => e = .returned (.bool true) ∧ Below w.heap.size w w' := by
  have HR := Lib.hid hr
  clear hr
  go_enter Try.func7, Try.ntmps7
  go_wp2_with fail
  refine (few23_any S A n c l _ HR.out).mono ?_
  rintro e w1 ⟨A1, n1, rfl, hr1, rfl⟩
  have hlen : (l.take 60).length ≤ 60 := List.length_take_le _ _
  generalize l.take 60 = m at hr1 hlen
  have HR1 := Lib.hid hr1
  clear hr1 HR
  go_wp2_with fail
  refine (short23_any s _).mono ?_
  rintro e w1 ⟨t, rfl, htl, rfl⟩
  go_wp2_with fail
  refine (Value_any S A1 n1 c m q w HR1.out (by omega)).mono ?_
  rintro e w2 ⟨⟨v2, rfl, hv2⟩, hb2⟩
  have HR2 := Lib.hid (HR1.out.below hb2)
  go_wp2_with fail
  refine (RValue_any S A1 n1 c m q w2 HR2.out (by omega)).mono ?_
  rintro e w3 ⟨⟨v3, rfl, hv3⟩, hb3⟩
  have HR3 := Lib.hid (HR2.out.below hb3)
  have HV2 := Lib.hid (hv2.below hb3)
  have HV3 := Lib.hid hv3
  have HB3 := Lib.hid (bt hb2 hb3)
  clear hv2 hv3 hb2 hb3 HR1 HR2
  go_wp2_with fail
  refine (Attr_any t S A1 n1 c m q w3 HR3.out (by omega) (by omega)).mono ?_
  rintro e w4 ⟨⟨v4, rfl, hv4⟩, hb4⟩
  have HR4 := Lib.hid (HR3.out.below hb4)
  go_wp2_with fail
  refine (RAttr_any t S A1 n1 c m q w4 HR4.out (by omega) (by omega)).mono ?_
  rintro e w5 ⟨⟨v5, rfl, hv5⟩, hb5⟩
  have HR5 := Lib.hid (HR4.out.below hb5)
  have HV4 := Lib.hid (hv4.below hb5)
  have HV5 := Lib.hid hv5
  have HB35 := Lib.hid (bt hb4 hb5)
  clear hv4 hv5 hb4 hb5 HR3 HR4
  go_wp2_with fail
  refine (Text_any S A1 n1 c m w5 HR5.out (by omega)).mono ?_
  rintro e w6 ⟨⟨v6, rfl, hv6⟩, hb6⟩
  have HR6 := Lib.hid (HR5.out.below hb6)
  go_wp2_with fail
  refine (RText23_any S A1 n1 c m w6 HR6.out (by omega)).mono ?_
  rintro e w7 ⟨⟨v7, rfl, hv7⟩, hb7⟩
  have HR7 := Lib.hid (HR6.out.below hb7)
  have HV6 := Lib.hid (hv6.below hb7)
  have HV7 := Lib.hid hv7
  have HB57 := Lib.hid (bt hb6 hb7)
  clear hv6 hv7 hb6 hb7 HR5 HR6
  go_wp2_with fail
  refine (Quote_any S A1 n1 c m w7 HR7.out).mono ?_
  rintro e w8 ⟨rfl, hb8⟩
  have HR8 := Lib.hid (HR7.out.below hb8)
  generalize hqf : quoteF m = qf
  go_wp2_with fail
  refine (RQuote_any S A1 n1 c m w8 HR8.out (by omega)).mono ?_
  rintro e w9 ⟨rfl, rfl⟩
  rw [hqf]
  have HB8 := Lib.hid hb8
  clear hb8 HR7 HR8 hqf
  go_wp2_with fail
  refine (same23_opt w8 v2 v3 _ (HV2.out.below (bt HB35.out (bt HB57.out HB8.out))) (HV3.out.below (bt HB35.out (bt HB57.out HB8.out)))).mono ?_
  rintro e w10 ⟨rfl, hb10⟩
  have HB10 := Lib.hid hb10
  clear hb10
  go_wp2_with fail
  refine (same23_opt w10 v4 v5 _ (HV4.out.below (bt HB57.out (bt HB8.out HB10.out))) (HV5.out.below (bt HB57.out (bt HB8.out HB10.out)))).mono ?_
  rintro e w11 ⟨rfl, hb11⟩
  have HB11 := Lib.hid hb11
  clear hb11
  go_wp2_with fail
  refine (same23_opt w11 v6 v7 _ (HV6.out.below (bt HB8.out (bt HB10.out HB11.out))) (HV7.out.below (bt HB8.out (bt HB10.out HB11.out)))).mono ?_
  rintro e w12 ⟨rfl, hb12⟩
  have HB12 := Lib.hid hb12
  clear hb12
  go_wp2_with fail
  refine (awake23 w12).mono ?_
  rintro e w13 ⟨rfl, hb13⟩
  go_wp2
  go_ret
  exact ⟨rfl, bt HB3.out (bt HB35.out (bt HB57.out (bt HB8.out (bt HB10.out (bt HB11.out (bt HB12.out hb13))))))⟩

end Go.Proofs.Ytbbplpmaknaadaa
