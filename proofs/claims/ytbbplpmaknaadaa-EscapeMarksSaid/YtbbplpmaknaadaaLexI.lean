/-
  Layer 16 (dtd): PI: the program's. Rows of at most 10000000 runes.
-/
import Derived.Test.YtbbplpmaknaadaaLexD
import Derived.Test.YtbbplpmaknaadaaLexF
import Derived.Test.YtbbplpmaknaadaaLexH
import Derived.Test.YtbbplpmaknaadaaNormB
namespace Go.Proofs.Ytbbplpmaknaadaa
open Go.RowKit Go.Lib

/-! ### plain -/
/-- the row within the signs -/
def midF (l : List Int) (a b : Nat) : List Int := (l.drop (a + 2)).take (b - 2 - (a + 2))
def tgtF (m : List Int) : List UInt8 := bytesF (m.take (leadF m 0))
def gapF (m : List Int) : Nat := runF isSpace m (leadF m 0 : Nat)
def piOk (l : List Int) (a b : Nat) : Bool :=
  decide (4 ≤ b - a) && (startsF l a [60, 63] && (startsF l (b - 2) [63, 62] && ((l.drop a).take (b - a)).all isChar))
def piIn (m : List Int) : Bool :=
  plainF (tgtF m) && (!xmlF (tgtF m) && (!(findF m 0 m.length [63, 62]).isSome && !(decide (gapF m = 0) && decide (leadF m 0 < m.length))))
def piF (l : List Int) (a b : Nat) : Option (List UInt8 × List Int) :=
  if piOk l a b && piIn (midF l a b) then some (tgtF (midF l a b), linesF ((midF l a b).drop (leadF (midF l a b) 0 + gapF (midF l a b)))) else none
/-- a target, runes, or none: as three results -/
def PIV (w : World) (r : Option (List UInt8 × List Int)) (e : Ending) : Prop := ∃ s v, e = .returned (.tuple #[.string s, v, .bool r.isSome]) ∧ s.data.toList = (r.map (·.1)).getD [] ∧ RunesV w v ((r.map (·.2)).getD [])

theorem lead_le (m : List Int) : leadF m 0 ≤ m.length := by
  unfold leadF
  split
  · omega
  · split
    · rw [List.drop_zero]; exact (List.takeWhile_sublist _).length_le
    · omega
theorem run_le (p : Int → Bool) (m : List Int) (k : Nat) (hk : k ≤ m.length) : k + runF p m k ≤ m.length := by
  unfold runF
  split
  · omega
  · have := (List.takeWhile_sublist p (l := m.drop (k : Int).toNat)).length_le
    rw [List.length_drop] at this
    omega
theorem mid_len (l : List Int) (a b : Nat) (hb : b ≤ l.length) : (midF l a b).length = b - 2 - (a + 2) := by simp [midF]; omega

theorem piF_no (l : List Int) (a b : Nat) (h : piOk l a b = false) : piF l a b = none := by rw [piF, h]; rfl
theorem piF_no2 (l : List Int) (a b : Nat) (h : piIn (midF l a b) = false) : piF l a b = none := by rw [piF, h, Bool.and_false]; rfl
theorem piF_yes (l : List Int) (a b : Nat) (h : piOk l a b = true) (h2 : piIn (midF l a b) = true) :
    piF l a b = some (tgtF (midF l a b), linesF ((midF l a b).drop (leadF (midF l a b) 0 + gapF (midF l a b)))) := by rw [piF, h, h2]; rfl

theorem PIV.no (w : World) (q : Option (List UInt8 × List Int)) (h : q = none) : PIV w q (.returned (.tuple #[.string ⟨#[]⟩, .slice none 0 0, .bool false])) := by
  subst h
  exact ⟨_, _, rfl, rfl, .nil_ _⟩

set_option maxHeartbeats 4000000 in
set_option maxRecDepth 100000 in
theorem PI16_any (S : Nat → Prop) (A : Option Addr) (n c : Nat) (l : List Int) (a b : Nat) (w : World) (hr : Rd w S 1 A n c (rc l)) (hab : a ≤ b) (hbl : b ≤ l.length) (hl9 : l.length ≤ 10000000) :
    Calls Try.prog 67 #[.slice A n c, .int .i64 a, .int .i64 b] w fun e w' => PIV w' (piF l a b) e ∧ Below w.heap.size w w' := by
  obtain rfl := hr.rlen
  have hle := hr.le
  have hmx : c ≤ 9223372036854775807 := hr.max
  have hm : mayF l.length a b = true := by simp [mayF]; omega
  have HIN := fun W => Lib.hid (In_any A l.length c a b W)
  simp only [hm] at HIN
  clear hm
  have HNO := Lib.hid (piF_no l a b)
  have HNO2 := Lib.hid (piF_no2 l a b)
  have HYES := Lib.hid (piF_yes l a b)
  have HOK : Hid (piOk l a b = (decide (4 ≤ b - a) && (startsF l a [60, 63] && (startsF l (b - 2) [63, 62] && ((l.drop a).take (b - a)).all isChar)))) := rfl
  generalize piF l a b = q at HNO HNO2 HYES ⊢
  generalize piOk l a b = ok at HOK HNO HYES
  by_cases h4 : 4 ≤ b - a
  · have h4i : ¬ (b : Int) - (a : Int) < 4 := by omega
    rw [decide_eq_true h4, Bool.true_and] at HOK
    have HS1 : ∀ W, Below w.heap.size w W → Hid (Calls Try.prog 85 #[.slice A l.length c, .int .i64 a, .string ⟨#[60, 63]⟩] W fun e w' => e = .returned (.bool (startsF l a [60, 63])) ∧ Below W.heap.size W w') :=
      fun W h => Starts_any S A l.length c l a ⟨#[60, 63]⟩ W (hr.below h) (by omega) (by omega) (by decide)
    have HS2 : ∀ W, Below w.heap.size w W → Hid (Calls Try.prog 85 #[.slice A l.length c, .int .i64 ((b : Int) - 2), .string ⟨#[63, 62]⟩] W fun e w' => e = .returned (.bool (startsF l (b - 2) [63, 62])) ∧ Below W.heap.size W w') := by
      intro W h
      rw [show ((b : Int) - 2) = ((b - 2 : Nat) : Int) by omega]
      exact Starts_any S A l.length c l (b - 2) ⟨#[63, 62]⟩ W (hr.below h) (by omega) (by omega) (by decide)
    obtain ⟨A2, hr2, hsl⟩ := hr.runesLH hab hbl
    have HCH := fun W (h : Below w.heap.size w W) => Lib.hid (All_any S A2 (b - a) (c - a) _ _ #[] isChar W eg_Char (hr2.below h) (Char_ok W))
    obtain ⟨A3, hr3, hsl3⟩ := hr.runesLH (j := a + 2) (k := b - 2) (by omega) (by omega)
    rw [show ((a + 2 : Nat) : Int) = (a : Int) + 2 by omega, show ((b - 2 : Nat) : Int) = (b : Int) - 2 by omega] at hsl3
    have hml := mid_len l a b hbl
    have hr3 : Rd w S 1 A3 (b - 2 - (a + 2)) (c - (a + 2)) (rc (midF l a b)) := hr3
    rw [← hml] at hr3 hsl3
    have hm9 : (midF l a b).length ≤ 10000000 := by omega
    have hcm : c - (a + 2) ≤ 9223372036854775807 := by omega
    have hlec := hr3.le
    clear hr hr2 hml
    generalize startsF l a [60, 63] = s1 at HS1 HOK
    generalize startsF l (b - 2) [63, 62] = s2 at HS2 HOK
    generalize ((l.drop a).take (b - a)).all isChar = ch at HCH HOK
    generalize c - (a + 2) = cm at hr3 hsl3 hcm hlec
    generalize midF l a b = m at hr3 hsl3 hm9 HNO2 HYES hlec
    have HR3 := Lib.hid hr3
    have hn := lead_le m
    have hg := run_le isSpace m (leadF m 0) hn
    have HLD := fun W (h : Below w.heap.size w W) => Lib.hid (NLead_any S A3 m.length cm m 0 W (HR3.out.below h) (by omega))
    obtain ⟨A4, hr4, hsl4⟩ := hr3.runesH hn
    have HR4 := Lib.hid hr4
    have htl := bytesF_len (m.take (leadF m 0))
    have HBY := fun W (h : Below w.heap.size w W) => Lib.hid (Bytes_any S A4 (leadF m 0) cm _ W (HR4.out.below h) (by simp; omega))
    have HRUN := fun W (h : Below w.heap.size w W) => Lib.hid (Run_any S A3 m.length cm m (leadF m 0 : Nat) _ #[] isSpace W eg_Space (HR3.out.below h) (Space_ok W))
    have HFI : ∀ W, Below w.heap.size w W → Hid (Calls Try.prog 86 #[.slice A3 m.length cm, .int .i64 0, .int .i64 m.length, .string ⟨#[63, 62]⟩] W fun e w' => e = .returned (.tuple #[.int .i64 ((findF m 0 m.length [63, 62]).getD 0), .bool (findF m 0 m.length [63, 62]).isSome]) ∧ Below W.heap.size W w') :=
      fun W h => LFind_any S A3 m.length cm m 0 m.length ⟨#[63, 62]⟩ W (HR3.out.below h) (by omega) (by omega) (by omega) (by decide)
    obtain ⟨A5, hr5, hsl5⟩ := hr3.runesL (k := leadF m 0 + runF isSpace m (leadF m 0 : Nat)) hg
    rw [show ((leadF m 0 + runF isSpace m (leadF m 0 : Nat) : Nat) : Int) = (leadF m 0 : Int) + (runF isSpace m (leadF m 0 : Nat) : Int) by omega] at hsl5
    have HR5 := Lib.hid hr5
    have HLN := fun W (h : Below w.heap.size w W) => Lib.hid (Lines_any S A5 _ _ _ W (HR5.out.below h) (by simp; omega))
    have HIM : Hid (piIn m = (plainF (bytesF (m.take (leadF m 0))) && (!xmlF (bytesF (m.take (leadF m 0))) && (!(findF m 0 m.length [63, 62]).isSome && !(decide (runF isSpace m (leadF m 0 : Nat) = 0) && decide (leadF m 0 < m.length)))))) := rfl
    have HY2 : Hid (ok = true → piIn m = true → q = some (bytesF (m.take (leadF m 0)), linesF (m.drop (leadF m 0 + runF isSpace m (leadF m 0 : Nat))))) := fun h1 h2 => HYES.out h1 h2
    clear hr3 hr4 hr5 HYES
    generalize linesF (m.drop (leadF m 0 + runF isSpace m (leadF m 0 : Nat))) = ln at HLN HY2
    generalize bytesF (m.take (leadF m 0)) = tb at HBY HIM HY2 htl
    generalize runF isSpace m (leadF m 0 : Nat) = sp at HRUN HIM hsl5 HLN hg
    have htb : tb.length ≤ 40000000 := by simp at htl; omega
    obtain ⟨z, hz⟩ : ∃ z : ByteArray, z = ⟨tb.toArray⟩ := ⟨_, rfl⟩
    have hzl : z.data.toList = tb := by rw [hz]
    have hzs : z.size ≤ 300000000 := by rw [hz]; simp [ByteArray.size]; omega
    have HPL := fun W => Lib.hid (Plain_any z W hzs)
    have HLO := fun W => Lib.hid (Lower_any z W hzs)
    rw [hzl] at HPL HLO
    obtain ⟨z2, hz2⟩ : ∃ z2 : ByteArray, z2 = ⟨(lowerF tb).toArray⟩ := ⟨_, rfl⟩
    have hzx : (z2.toList == [120, 109, 108]) = xmlF tb := by rw [ByteArray.toList_eq, hz2]; rfl
    rw [← hz2] at HLO
    generalize xmlF tb = x at HIM hzx
    generalize plainF tb = p at HPL HIM
    generalize (findF m 0 m.length [63, 62]).isSome = fb at HFI HIM
    generalize (findF m 0 m.length [63, 62]).getD 0 = fk at HFI
    generalize leadF m 0 = nn at HLD HBY HRUN HIM hsl4 hsl5 HLN hn hg
    have HZ := Lib.hid hz
    clear htl hz2 hz
    go_enter Try.func67, Try.ntmps67
    go_wp2_with fail
    refine (HIN _).out.mono ?_
    rintro e w1 ⟨rfl, rfl⟩
    go_wp2_with fail
    refine (HS1 _ (Below.refl _ _)).out.mono ?_
    rintro e w1 ⟨rfl, hb1⟩
    have HB1 := Lib.hid hb1
    clear hb1
    cases s1 with
    | false =>
      go_wp2
      go_ret3
      exact ⟨PIV.no _ _ (HNO.out HOK.out), HB1.out⟩
    | true =>
      go_wp2_with fail
      refine (HS2 _ HB1.out).out.mono ?_
      rintro e w2 ⟨rfl, hb2⟩
      have HB2 := Lib.hid (bt HB1.out hb2)
      clear hb2
      cases s2 with
      | false =>
        go_wp2
        go_ret3
        exact ⟨PIV.no _ _ (HNO.out HOK.out), HB2.out⟩
      | true =>
        go_wp2_with fail
        refine (HCH _ HB2.out).out.mono ?_
        rintro e w3 ⟨rfl, hb3⟩
        have HB3 := Lib.hid (bt HB2.out hb3)
        clear hb3
        cases ch with
        | false =>
          go_wp2
          go_ret3
          exact ⟨PIV.no _ _ (HNO.out HOK.out), HB3.out⟩
        | true =>
          go_wp2_with fail
          refine (HLD _ HB3.out).out.mono ?_
          rintro e w4 ⟨rfl, hb4⟩
          have HB4 := Lib.hid (bt HB3.out hb4)
          clear hb4 HB1 HB2 HB3 HS1 HS2 HCH HLD
          go_wp2_with fail
          refine (HBY _ HB4.out).out.mono ?_
          rintro e w5 ⟨v5, rfl, ⟨n5, ho5⟩, hb5⟩
          obtain ⟨A6, c6, rfl, hr6⟩ := own_form ho5
          have hcv := run_bytes_string hr6 88 9 5 Try.underlying88 Try.underlying5 Try.underlying9 (P := Try.prog)
          rw [← HZ.out] at hcv
          have HB5 := Lib.hid (bt HB4.out hb5)
          clear hb5 ho5 hr6 HB4 HBY
          go_wp2_with fail
          refine (HPL _).out.mono ?_
          rintro e w6 ⟨rfl, hb6⟩
          have HB6 := Lib.hid (bt HB5.out hb6)
          clear hb6 hcv
          cases p with
          | false =>
            go_wp2
            go_ret3
            exact ⟨PIV.no _ _ (HNO2.out HIM.out), HB6.out⟩
          | true =>
            go_wp2_with fail
            refine (HLO _).out.mono ?_
            rintro e w7 ⟨rfl, hb7⟩
            have HB7 := Lib.hid (bt HB6.out hb7)
            clear hb7
            cases x with
            | true =>
              go_wp2
              go_ret3
              exact ⟨PIV.no _ _ (HNO2.out HIM.out), HB7.out⟩
            | false =>
              go_wp2_with fail
              refine (HRUN _ HB7.out).out.mono ?_
              rintro e w8 ⟨rfl, hb8⟩
              have HB8 := Lib.hid (bt HB7.out hb8)
              clear hb8
              go_wp2_with fail
              refine (HFI _ HB8.out).out.mono ?_
              rintro e w9 ⟨rfl, hb9⟩
              have HB9 := Lib.hid (bt HB8.out hb9)
              clear hb9 hzx HB5 HB6 HB7 HB8
              cases fb with
              | true =>
                go_wp2
                go_ret3
                exact ⟨PIV.no _ _ (HNO2.out HIM.out), HB9.out⟩
              | false =>
                by_cases hs0 : sp = 0
                · by_cases hnl : nn < m.length
                  · have HF : Hid (piIn m = false) := by rw [Hid, HIM.out, decide_eq_true hs0, decide_eq_true hnl]; rfl
                    have hs0i : ((sp : Int) == 0) = true := by rw [hs0]; rfl
                    clear hs0
                    have hnli : (nn : Int) < (m.length : Int) := by omega
                    go_wp2
                    go_ret3
                    exact ⟨PIV.no _ _ (HNO2.out HF.out), HB9.out⟩
                  · have HF : Hid (piIn m = true) := by rw [Hid, HIM.out, decide_eq_false hnl, Bool.and_false]; rfl
                    have hs0i : ((sp : Int) == 0) = true := by rw [hs0]; rfl
                    clear hs0
                    have hnli : ¬ (nn : Int) < (m.length : Int) := by omega
                    go_wp2_with fail
                    refine (HLN _ HB9.out).out.mono ?_
                    rintro e w10 ⟨v10, rfl, ⟨n10, ho10⟩, hb10⟩
                    have HB10 := Lib.hid (bt HB9.out hb10)
                    have HV := Lib.hid (RunesV.of_own ho10)
                    clear hb10 ho10
                    go_wp2
                    go_ret3
                    refine ⟨?_, HB10.out⟩
                    rw [HY2.out HOK.out HF.out]
                    exact ⟨_, _, rfl, hzl, HV.out⟩
                · have HF : Hid (piIn m = true) := by rw [Hid, HIM.out, decide_eq_false hs0, Bool.false_and]; rfl
                  have hs0i : ((sp : Int) == 0) = false := by rw [beq_eq_false_iff_ne]; omega
                  clear hs0
                  go_wp2_with fail
                  refine (HLN _ HB9.out).out.mono ?_
                  rintro e w10 ⟨v10, rfl, ⟨n10, ho10⟩, hb10⟩
                  have HB10 := Lib.hid (bt HB9.out hb10)
                  have HV := Lib.hid (RunesV.of_own ho10)
                  clear hb10 ho10
                  go_wp2
                  go_ret3
                  refine ⟨?_, HB10.out⟩
                  rw [HY2.out HOK.out HF.out]
                  exact ⟨_, _, rfl, hzl, HV.out⟩
  · have h4i : (b : Int) - (a : Int) < 4 := by omega
    rw [decide_eq_false h4, Bool.false_and] at HOK
    clear hr
    go_enter Try.func67, Try.ntmps67
    go_wp2_with fail
    refine (HIN _).out.mono ?_
    rintro e w1 ⟨rfl, rfl⟩
    go_wp2
    go_ret3
    exact ⟨PIV.no _ _ (HNO.out HOK.out), Below.refl _ _⟩

end Go.Proofs.Ytbbplpmaknaadaa
