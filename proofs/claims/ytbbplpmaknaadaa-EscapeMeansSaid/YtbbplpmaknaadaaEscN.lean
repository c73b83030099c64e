/-
  Layer 23 (escape): the statement EscapeMeans.
-/
import Derived.Test.YtbbplpmaknaadaaRfH
import Derived.Test.YtbbplpmaknaadaaRfB
import Derived.Test.YtbbplpmaknaadaaEscL
namespace Go.Proofs.Ytbbplpmaknaadaa
open Go.RowKit Go.Lib

theorem quoted_parts (p : List Int) (q : Int) : 2 ≤ ([q] ++ p ++ [q]).length ∧ ([q] ++ p ++ [q])[0]? = some q ∧ ([q] ++ p ++ [q])[([q] ++ p ++ [q]).length - 1]? = some q ∧
    (([q] ++ p ++ [q]).drop 1).take (([q] ++ p ++ [q]).length - 1 - 1) = p := by
  refine ⟨by simp, by simp, ?_, ?_⟩
  · rw [List.getElem?_append_right (by simp)]; simp
  · simp

set_option maxHeartbeats 2000000 in
set_option maxRecDepth 100000 in
theorem EscapeMeans_any (S : Nat → Prop) (A : Option Addr) (n c : Nat) (l : List Int) (q : Int) (w : World) (hr : Rd w S 1 A n c (rc l)) :
    Calls Try.prog 10 #[.slice A n c, .int .i32 q] w fun e w' => e = .returned (.bool true) ∧ Below w.heap.size w w' := by
  have HR := Lib.hid hr
  clear hr
  go_enter Try.func10, Try.ntmps10
  go_wp2_with fail
  refine (few23_any S A n c l _ HR.out).mono ?_
  rintro e w1 ⟨A1, n1, rfl, hr1, rfl⟩
  have hlen : (l.take 60).length ≤ 60 := List.length_take_le _ _
  generalize l.take 60 = m at hr1 hlen
  have HR1 := Lib.hid hr1
  clear hr1 HR
  have HTX := fun W (h : Below w.heap.size w W) => Lib.hid (Text_any S A1 n1 c m W (HR1.out.below h) (by omega))
  have HVL := fun W (h : Below w.heap.size w W) => Lib.hid (Value_any S A1 n1 c m q W (HR1.out.below h) (by omega))
  have HT : Hid (textF m = if m.all isChar then some (putF m 0) else none) := rfl
  have HV : Hid (valueF m q = if (q == 34 || q == 39) && m.all isChar then some ([q] ++ putF m q ++ [q]) else none) := rfl
  have HP0 := Lib.hid (plainly_put m 0)
  have HPQ := Lib.hid (plainly_put m q)
  have hp0 : (putF m 0).length ≤ 360 := by have := putTo_len m 0 m.length; unfold putF; omega
  have hpq : (putF m q).length ≤ 360 := by have := putTo_len m q m.length; unfold putF; omega
  generalize textF m = tx at HTX HT
  generalize valueF m q = vl at HVL HV
  generalize m.all isChar = ch at HT HV
  generalize (q == 34 || q == 39) = qb at HV
  generalize putF m 0 = p0 at HT HP0 hp0
  cases ch with
  | false =>
    have HT1 : tx = none := HT.out
    have HV1 : vl = none := by rw [HV.out, Bool.and_false]; rfl
    subst HT1 HV1
    clear HT HV HP0 HPQ
    go_wp2_with fail
    refine (HTX _ (Below.refl _ _)).out.mono ?_
    rintro e w2 ⟨⟨v2, rfl, hv2⟩, hb2⟩
    have hv2 : RunesV w2 v2 [] := hv2
    obtain ⟨A2, c2, rfl, hr2⟩ := hv2.lenB
    have hle2 := hr2.le
    have hmx2 : c2 ≤ 9223372036854775807 := hr2.max
    have HB2 := Lib.hid hb2
    have HPL := Lib.hid (Plainly_any _ A2 _ c2 [] w2 hr2 (by simp))
    clear hb2 hr2 hv2
    generalize plainlyF [] = pr at HPL
    go_wp2_with fail
    refine HPL.out.mono ?_
    rintro e w3 ⟨⟨v3, rfl, hv3⟩, hb3⟩
    have HB3 := Lib.hid (bt HB2.out hb3)
    clear hb3 hv3
    go_wp2_with fail
    refine (HVL _ HB3.out).out.mono ?_
    rintro e w4 ⟨⟨v4, rfl, hv4⟩, hb4⟩
    have HB4 := Lib.hid (bt HB3.out hb4)
    clear hb4 hv4
    go_wp2_with fail
    refine (awake23 _).mono ?_
    rintro e w5 ⟨rfl, hb5⟩
    go_wp2
    go_ret
    exact ⟨rfl, bt HB4.out hb5⟩
  | true =>
    have HT1 : tx = some p0 := HT.out
    subst HT1
    clear HT
    go_wp2_with fail
    refine (HTX _ (Below.refl _ _)).out.mono ?_
    rintro e w2 ⟨⟨v2, rfl, hv2⟩, hb2⟩
    have hv2 : RunesV w2 v2 p0 := hv2
    obtain ⟨A2, c2, rfl, hr2⟩ := hv2.lenB
    have hle2 := hr2.le
    have hmx2 : c2 ≤ 9223372036854775807 := hr2.max
    have HB2 := Lib.hid hb2
    have HPL := Lib.hid (Plainly_any _ A2 _ c2 p0 w2 hr2 (by omega))
    rw [HP0.out] at HPL
    clear hb2 hr2 hv2 HTX
    go_wp2_with fail
    refine HPL.out.mono ?_
    rintro e w3 ⟨⟨v3, rfl, hv3⟩, hb3⟩
    have hv3 : RunesV w3 v3 m := hv3
    obtain ⟨A3, c3, rfl, hr3⟩ := hv3.lenB
    have HB3 := Lib.hid (bt HB2.out hb3)
    have HSM := Lib.hid (same23t_any _ S A3 A1 m.length c3 n1 c m m w3 hr3 (HR1.out.below HB3.out))
    clear hb3 hv3 hr3 HPL
    rw [show (m == m) = true by simp] at HSM
    go_wp2_with fail
    refine HSM.out.mono ?_
    rintro e w4 ⟨rfl, hb4⟩
    have HB4 := Lib.hid (bt HB3.out hb4)
    clear hb4 HSM
    cases qb with
    | false =>
      have HV1 : vl = none := HV.out
      subst HV1
      clear HV
      go_wp2_with fail
      refine (HVL _ HB4.out).out.mono ?_
      rintro e w5 ⟨⟨v5, rfl, hv5⟩, hb5⟩
      have HB5 := Lib.hid (bt HB4.out hb5)
      clear hb5 hv5
      go_wp2_with fail
      refine (awake23 _).mono ?_
      rintro e w6 ⟨rfl, hb6⟩
      go_wp2
      go_ret
      exact ⟨rfl, bt HB5.out hb6⟩
    | true =>
      have HV1 : vl = some ([q] ++ putF m q ++ [q]) := HV.out
      obtain ⟨h2, h3, h4, h5⟩ := quoted_parts (putF m q) q
      have hol : ([q] ++ putF m q ++ [q]).length ≤ 362 := by simp; omega
      clear HV
      generalize [q] ++ putF m q ++ [q] = o at HV1 h2 h3 h4 h5 hol
      subst HV1
      have H5 := Lib.hid h5
      have H3 := Lib.hid h3
      have H4 := Lib.hid h4
      clear h5 h3 h4
      generalize putF m q = pq at H5 HPQ hpq
      go_wp2_with fail
      refine (HVL _ HB4.out).out.mono ?_
      rintro e w5 ⟨⟨v5, rfl, hv5⟩, hb5⟩
      have hv5 : RunesV w5 v5 o := hv5
      obtain ⟨A5, c5, rfl, hr5⟩ := hv5.lenB
      have hle5 := hr5.le
      have hmx5 : c5 ≤ 9223372036854775807 := hr5.max
      have HB5 := Lib.hid (bt HB4.out hb5)
      obtain ⟨b, u, rfl, hc0⟩ := hr5.rune (k := 0) (by omega)
      obtain ⟨b', u', hA, hc1⟩ := hr5.rune (k := o.length - 1) (by omega)
      injection hA with hA
      injection hA with e1 e2
      subst e1 e2
      have ho0 : o[0]'(by omega) = q := by have := H3.out; rw [List.getElem?_eq_getElem (by omega)] at this; exact Option.some.inj this
      have ho1 : o[o.length - 1]'(by omega) = q := by have := H4.out; rw [List.getElem?_eq_getElem (by omega)] at this; exact Option.some.inj this
      rw [ho0, Nat.add_zero] at hc0
      rw [ho1] at hc1
      have hl2 : ¬ (o.length : Int) < 2 := by omega
      have hl0 : (0 : Int) < (o.length : Int) := by omega
      have hl1 : (o.length : Int) - 1 < (o.length : Int) := by omega
      obtain ⟨A6, hr6, hsl⟩ := hr5.runesLH (j := 1) (k := o.length - 1) (by omega) (by omega)
      rw [H5.out] at hr6
      have hsl : ∀ W, (Instr.slice 22 (.slice (some ⟨b, u, none⟩) o.length c5) (some (.int .i64 1)) (some (.int .i64 ((o.length : Int) - 1))) none).run Try.prog W = .ok (.slice A6 (o.length - 1 - 1) (c5 - 1)) W := by
        rw [show ((o.length : Int) - 1) = ((o.length - 1 : Nat) : Int) by omega]; exact hsl
      have HPL := Lib.hid (Plainly_any _ A6 _ (c5 - 1) pq w5 hr6 (by omega))
      rw [HPQ.out] at HPL
      clear ho0 ho1 hb5 hv5 hr5 hr6 HVL H3 H4 H5
      generalize o.length - 1 - 1 = nn at hsl HPL
      generalize c5 - 1 = cc at hsl HPL
      go_wp2_with fail
      refine HPL.out.mono ?_
      rintro e w6 ⟨⟨v6, rfl, hv6⟩, hb6⟩
      have hv6 : RunesV w6 v6 m := hv6
      obtain ⟨A7, c7, rfl, hr7⟩ := hv6.lenB
      have HB6 := Lib.hid (bt HB5.out hb6)
      have HSM := Lib.hid (same23t_any _ S A7 A1 m.length c7 n1 c m m w6 hr7 (HR1.out.below HB6.out))
      clear hb6 hv6 hr7 HPL
      rw [show (m == m) = true by simp] at HSM
      go_wp2_with fail
      refine HSM.out.mono ?_
      rintro e w7 ⟨rfl, hb7⟩
      have HB7 := Lib.hid (bt HB6.out hb7)
      clear hb7 HSM
      go_wp2_with fail
      refine (awake23 _).mono ?_
      rintro e w8 ⟨rfl, hb8⟩
      go_wp2
      go_ret
      exact ⟨rfl, bt HB7.out hb8⟩

end Go.Proofs.Ytbbplpmaknaadaa
