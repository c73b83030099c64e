/-
  Layer 23 (escape): the statement EscapeMarks.
-/
import Derived.Test.YtbbplpmaknaadaaEscI
import Derived.Test.YtbbplpmaknaadaaEscK
import Derived.Test.YtbbplpmaknaadaaEscL
namespace Go.Proofs.Ytbbplpmaknaadaa
open Go.RowKit Go.Lib

theorem I32.of_wf {l : List Int} (h : ∀ n ∈ l, (Lit.int .i32 n).wf = true) : I32 l := fun x hx => by
  have := h x hx
  simp [Lit.wf, IntKind.min, IntKind.max, IntKind.bits, IntKind.signed] at this
  omega

set_option maxHeartbeats 2000000 in
set_option maxRecDepth 100000 in
theorem EscapeMarks_any (S : Nat → Prop) (A : Option Addr) (n c : Nat) (l : List Int) (s : ByteArray) (w : World) (hr : Rd w S 1 A n c (rc l)) (hi : I32 l) :
    Calls Try.prog 9 #[.slice A n c, .string s] w fun e w' => e = .returned (.bool true) ∧ Below w.heap.size w w' := by
  have HR := Lib.hid hr
  have hi2 : I32 (l.take 60) := hi.sub fun x hx => List.mem_of_mem_take hx
  clear hr
  go_enter Try.func9, Try.ntmps9
  go_wp2_with fail
  refine (few23_any S A n c l _ HR.out).mono ?_
  rintro e w1 ⟨A1, n1, rfl, hr1, rfl⟩
  have hlen : (l.take 60).length ≤ 60 := List.length_take_le _ _
  generalize l.take 60 = m at hr1 hlen hi2
  have HR1 := Lib.hid hr1
  have HI := Lib.hid hi2
  clear hr1 HR hi hi2
  go_wp2_with fail
  refine (short23_any s _).mono ?_
  rintro e w1 ⟨t, rfl, htl, rfl⟩
  go_wp2_with fail
  refine (Comment_any S A1 n1 c m w HR1.out (by omega)).mono ?_
  rintro e w2 ⟨⟨v2, rfl, hv2⟩, hb2⟩
  have HR2 := Lib.hid (HR1.out.below hb2)
  go_wp2_with fail
  refine (RComment_any S A1 n1 c m w2 HR2.out (by omega) HI.out).mono ?_
  rintro e w3 ⟨⟨v3, k3, rfl, hv3, hk3⟩, hb3⟩
  have HR3 := Lib.hid (HR2.out.below hb3)
  have HV2 := Lib.hid (hv2.below hb3)
  have HV3 := Lib.hid hv3
  have HK3 := Lib.hid hk3
  have HB3 := Lib.hid (bt hb2 hb3)
  clear hv2 hv3 hk3 hb2 hb3 HR1 HR2
  go_wp2_with fail
  refine (EPI_any t S A1 n1 c m w3 HR3.out (by omega) (by omega)).mono ?_
  rintro e w4 ⟨⟨v4, rfl, hv4⟩, hb4⟩
  have HR4 := Lib.hid (HR3.out.below hb4)
  go_wp2_with fail
  refine (RPI_any t S A1 n1 c m w4 HR4.out (by omega) (by omega) HI.out).mono ?_
  rintro e w5 ⟨⟨v5, rfl, hv5⟩, hb5⟩
  have HR5 := Lib.hid (HR4.out.below hb5)
  have HV4 := Lib.hid (hv4.below hb5)
  have HV5 := Lib.hid hv5
  have HB35 := Lib.hid (bt hb4 hb5)
  clear hv4 hv5 hb4 hb5 HR3 HR4
  go_wp2_with fail
  refine (CData_any S A1 n1 c m w5 HR5.out (by omega)).mono ?_
  rintro e w6 ⟨⟨v6, rfl, hv6⟩, hb6⟩
  have HR6 := Lib.hid (HR5.out.below hb6)
  go_wp2_with fail
  refine (RCData_any S A1 n1 c m w6 HR6.out (by omega)).mono ?_
  rintro e w7 ⟨⟨v7, rfl, hv7⟩, hb7⟩
  have HV6 := Lib.hid (hv6.below hb7)
  have HV7 := Lib.hid hv7
  have HB57 := Lib.hid (bt hb6 hb7)
  clear hv6 hv7 hb6 hb7 HR5 HR6
  go_wp2_with fail
  refine (same23_optw w7 v2 v3 _ k3 (HV2.out.below (bt HB35.out HB57.out)) (HV3.out.below (bt HB35.out HB57.out)) HK3.out).mono ?_
  rintro e w10 ⟨rfl, hb10⟩
  have HB10 := Lib.hid hb10
  clear hb10
  go_wp2_with fail
  refine (same23_opt w10 v4 v5 _ (HV4.out.below (bt HB57.out HB10.out)) (HV5.out.below (bt HB57.out HB10.out))).mono ?_
  rintro e w11 ⟨rfl, hb11⟩
  have HB11 := Lib.hid hb11
  clear hb11
  go_wp2_with fail
  refine (same23_opt w11 v6 v7 _ (HV6.out.below (bt HB10.out HB11.out)) (HV7.out.below (bt HB10.out HB11.out))).mono ?_
  rintro e w12 ⟨rfl, hb12⟩
  have HB12 := Lib.hid hb12
  clear hb12
  go_wp2_with fail
  refine (awake23 w12).mono ?_
  rintro e w13 ⟨rfl, hb13⟩
  go_wp2
  go_ret
  exact ⟨rfl, bt HB3.out (bt HB35.out (bt HB57.out (bt HB10.out (bt HB11.out (bt HB12.out hb13)))))⟩

end Go.Proofs.Ytbbplpmaknaadaa
