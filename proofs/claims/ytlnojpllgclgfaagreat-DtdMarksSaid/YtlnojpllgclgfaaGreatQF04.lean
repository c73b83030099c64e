/- Parts of the proof; conditions as told. -/
import Derived.Test.YtlnojpllgclgfaaGreatQF03
import Derived.Test.YtlnojpllgclgfaaGreatQF01
import Derived.Test.YtlnojpllgclgfaaGreatQF02
import Derived.Deep.MidRow
set_option linter.unusedSimpArgs false
set_option linter.unusedVariables false
namespace Go.Proofs.YtlnojpllgclgfaaGreat
open Go.RowKit Go.Lib
theorem findF_some (l : List Int) (k t : Nat) (bs : List UInt8) (j : Nat) (hk : k ≤ j) (ht : j + bs.length ≤ t) (hj : startsF l j bs = true) : (findF l k t bs).isSome = true := by
  cases hf : findF l k t bs with
  | some v => rfl
  | none =>
    rw [findF, List.find?_eq_none] at hf
    exact absurd hj (hf j (List.mem_range'_1.2 ⟨hk, by omega⟩))
theorem starts_fits (l : List Int) (k : Nat) (bs : List UInt8) (hk : k ≤ l.length) (h : startsF l k bs = true) : k + bs.length ≤ l.length := by
  by_cases hn : l.length < k + bs.length
  · rw [starts_short l k bs hn hk] at h; cases h
  · omega
theorem I32.sub {l m : List Int} (h : I32 l) (hs : ∀ x ∈ m, x ∈ l) : I32 m := fun x hx => h x (hs x hx)
theorem runF_nat (p : Int → Bool) (m : List Int) (k : Nat) (hk : k ≤ m.length) : runF p m k = ((m.drop k).takeWhile p).length := by
  unfold runF
  rw [if_neg (by omega), Int.toNat_natCast]
set_option maxHeartbeats 4000000 in
set_option maxRecDepth 100000 in
theorem RPI16_any (S : Nat → Prop) (A : Option Addr) (n c : Nat) (l : List Int) (a b : Nat) (w : World) (hr : Rd w S 1 A n c (rc l)) (hab : a ≤ b) (hbl : b ≤ l.length) (hl9 : l.length ≤ 10000000) (hi : I32 l) :
    Calls Tryz.prog 8 #[.slice A n c, .int .i64 a, .int .i64 b] w fun e w' => PIV w' (piF l a b) e ∧ Below w.heap.size w w' := by
  obtain rfl := hr.rlen
  have hle := hr.le
  have hmx : c ≤ 9223372036854775807 := hr.max
  have hm : mayF l.length a b = true := by simp [mayF]; omega
  have HIN := fun W => Lib.hid (RMay_any A l.length c a b W)
  simp only [hm] at HIN
  clear hm
  have HNO := Lib.hid (piF_no l a b)
  have HNO2 := Lib.hid (piF_no2 l a b)
  have HYES := Lib.hid (piF_yes l a b)
  have HOK : Hid (piOk l a b = (decide (4 ≤ b - a) && (startsF l a [60, 63] && (startsF l (b - 2) [63, 62] && ((l.drop a).take (b - a)).all isChar)))) := rfl
  generalize piF l a b = q at HNO HNO2 HYES ⊢
  generalize piOk l a b = ok at HOK HNO HYES
  by_cases h4 : 4 ≤ b - a
  · have h4i : ¬ (b : Int) - (a : Int) < 4 := by omega
    rw [decide_eq_true h4, Bool.true_and] at HOK
    have HS1 : ∀ W, Below w.heap.size w W → Hid (Calls Tryz.prog 42 #[.slice A l.length c, .int .i64 a, .string ⟨#[60, 63]⟩] W fun e w' => e = .returned (.bool (startsF l a [60, 63])) ∧ Below W.heap.size W w') :=
      fun W h => RStarts_any S A l.length c l a ⟨#[60, 63]⟩ W (hr.below h) (by omega) (by omega) (by decide) hi
    have HS2 : ∀ W, Below w.heap.size w W → Hid (Calls Tryz.prog 42 #[.slice A l.length c, .int .i64 ((b : Int) - 2), .string ⟨#[63, 62]⟩] W fun e w' => e = .returned (.bool (startsF l (b - 2) [63, 62])) ∧ Below W.heap.size W w') := by
      intro W h
      rw [show ((b : Int) - 2) = ((b - 2 : Nat) : Int) by omega]
      exact RStarts_any S A l.length c l (b - 2) ⟨#[63, 62]⟩ W (hr.below h) (by omega) (by omega) (by decide) hi
    obtain ⟨A2, hr2, hsl⟩ := hr.runesLH hab hbl
    have HCH := fun W (h : Below w.heap.size w W) => Lib.hid (RChars16_any S A2 (b - a) (c - a) _ W (hr2.below h) (by simp; omega))
    obtain ⟨A3, hr3, hsl3⟩ := hr.runesLH (j := a + 2) (k := b - 2) (by omega) (by omega)
    rw [show ((a + 2 : Nat) : Int) = (a : Int) + 2 by omega, show ((b - 2 : Nat) : Int) = (b : Int) - 2 by omega] at hsl3
    have hml := mid_len l a b hbl
    have hr3 : Rd w S 1 A3 (b - 2 - (a + 2)) (c - (a + 2)) (rc (midF l a b)) := hr3
    rw [← hml] at hr3 hsl3
    have hmi : I32 (midF l a b) := hi.sub fun x hx => List.mem_of_mem_drop (List.mem_of_mem_take hx)
    have hm9 : (midF l a b).length ≤ 10000000 := by omega
    have hcm : c - (a + 2) ≤ 9223372036854775807 := by omega
    have hlec := hr3.le
    clear hr hr2 hml hi
    generalize startsF l a [60, 63] = s1 at HS1 HOK
    generalize startsF l (b - 2) [63, 62] = s2 at HS2 HOK
    generalize ((l.drop a).take (b - a)).all isChar = ch at HCH HOK
    generalize c - (a + 2) = cm at hr3 hsl3 hcm hlec
    generalize midF l a b = m at hr3 hsl3 hm9 HNO2 HYES hlec hmi
    have HR3 := Lib.hid hr3
    have hn := lead_le m
    have hg := run_le isSpace m (leadF m 0) hn
    have HLD := fun W (h : Below w.heap.size w W) => Lib.hid (RLead_any S A3 m.length cm m 0 W (HR3.out.below h) (by omega) (by omega))
    obtain ⟨A4, hr4, hsl4⟩ := hr3.runesH hn
    have HR4 := Lib.hid hr4
    have htl := bytesF_len (m.take (leadF m 0))
    have HBY := fun W (h : Below w.heap.size w W) => Lib.hid (RBytes_any S A4 (leadF m 0) cm _ W (HR4.out.below h) (by simp; omega) (hmi.sub fun x hx => List.mem_of_mem_take hx))
    have HST := fun W (j : Nat) (hj : j ≤ m.length) (h : Below w.heap.size w W) => Lib.hid (RStarts_any S A3 m.length cm m j ⟨#[63, 62]⟩ W (HR3.out.below h) hj (by omega) (by decide) hmi)
    have HST : ∀ W (j : Nat), j ≤ m.length → Below w.heap.size w W → Hid (Calls Tryz.prog 42 #[.slice A3 m.length cm, .int .i64 j, .string ⟨#[63, 62]⟩] W fun e w' => e = .returned (.bool (startsF m j [63, 62])) ∧ Below W.heap.size W w') := HST
    have HSL5 := Lib.hid (fun (k : Nat) (hk : k ≤ m.length) => hr3.runesL hk)
    have HRN := Lib.hid (fun (j : Nat) h1 (h2 : leadF m 0 + j ≤ m.length) h3 => (runF_nat isSpace m (leadF m 0) hn).trans (takeWhile_upto isSpace m (leadF m 0) j h1 h2 h3))
    have HFN := Lib.hid (findF_none m 0 m.length [63, 62])
    have HFS := Lib.hid (fun j h2 h3 => findF_some m 0 m.length [63, 62] j (Nat.zero_le _) h2 h3)
    have HIM : Hid (piIn m = (plainF (bytesF (m.take (leadF m 0))) && (!xmlF (bytesF (m.take (leadF m 0))) && (!(findF m 0 m.length [63, 62]).isSome && !(decide (runF isSpace m (leadF m 0 : Nat) = 0) && decide (leadF m 0 < m.length)))))) := rfl
    have HY2 : Hid (ok = true → piIn m = true → q = some (bytesF (m.take (leadF m 0)), linesF (m.drop (leadF m 0 + runF isSpace m (leadF m 0 : Nat))))) := fun h1 h2 => HYES.out h1 h2
    clear hr3 hr4 HYES
    generalize bytesF (m.take (leadF m 0)) = tb at HBY HIM HY2 htl
    generalize runF isSpace m (leadF m 0 : Nat) = sp at HRN HIM HY2 hg
    have htb : tb.length ≤ 40000000 := by simp at htl; omega
    obtain ⟨z, hz⟩ : ∃ z : ByteArray, z = ⟨tb.toArray⟩ := ⟨_, rfl⟩
    have hzl : z.data.toList = tb := by rw [hz]
    have hzs : z.size ≤ 300000000 := by rw [hz]; simp [ByteArray.size]; omega
    have HPL := fun W => Lib.hid (RPlain_any z W hzs)
    have HLO := fun W => Lib.hid (RXml_any z W)
    rw [hzl] at HPL HLO
    generalize xmlF tb = x at HIM HLO
    generalize plainF tb = p at HPL HIM
    generalize findF m 0 m.length [63, 62] = fo at HFN HFS HIM
    generalize leadF m 0 = nn at HLD HBY HRN HIM HY2 hsl4 hn hg htl
    have HZ := Lib.hid hz
    have HMI := Lib.hid hmi
    clear htl hz hmi
    go_enter Tryz.func8, Tryz.ntmps8
    go_wp2_with fail
    refine (HIN _).out.mono ?_
    rintro e w1 ⟨rfl, rfl⟩
    go_wp2_with fail
    refine (HCH _ (Below.refl _ _)).out.mono ?_
    rintro e w3 ⟨rfl, rfl⟩
    cases ch with
    | false =>
      go_wp2
      go_ret3
      exact ⟨PIV.no _ _ (HNO.out (by rw [HOK.out, Bool.and_false, Bool.and_false])), Below.refl _ _⟩
    | true =>
      go_wp2_with fail
      refine (HS1 _ (Below.refl _ _)).out.mono ?_
      rintro e w1 ⟨rfl, hb1⟩
      have HB1 := Lib.hid hb1
      clear hb1
      cases s1 with
      | false =>
        go_wp2
        go_ret3
        exact ⟨PIV.no _ _ (HNO.out HOK.out), HB1.out⟩
      | true =>
        go_wp2_with fail
        refine (HS2 _ HB1.out).out.mono ?_
        rintro e w2 ⟨rfl, hb2⟩
        have HB2 := Lib.hid (bt HB1.out hb2)
        clear hb2 HS1 HS2 HCH HIN
        cases s2 with
        | false =>
          go_wp2
          go_ret3
          exact ⟨PIV.no _ _ (HNO.out HOK.out), HB2.out⟩
        | true =>
          go_wp2
          go_loopw [52] (fun i wr => ∃ j : Nat, j ≤ m.length ∧ i = .int .i64 j ∧ Hid (Below w.heap.size w wr) ∧ Hid (∀ i, i < j → startsF m i [63, 62] = false)) (fun i _ => m.length - (intOf i).toNat)
          case atStart => exact ⟨0, Nat.zero_le _, rfl, HB2.out, fun i h => absurd h (by omega)⟩
          case round =>
            obtain ⟨j, hj, rfl, HBJ, HJ⟩ := hrel
            by_cases hlt : j < m.length
            · have hlti : (j : Int) < (m.length : Int) := by omega
              have HC := HST _ j hj HBJ.out
              cases hq : startsF m j [63, 62] with
              | true =>
                rw [hq] at HC
                have HF : Hid (piIn m = false) := by
                  have hfit := starts_fits m j [63, 62] hj hq
                  rw [Hid, HIM.out, HFS.out j hfit hq]; simp
                clear hq
                go_wp2_with fail
                refine HC.out.mono ?_
                rintro e w4 ⟨rfl, hb4⟩
                have HB4 := Lib.hid (HBJ.out.trans (hb4.mono HBJ.out.size))
                clear hb4
                go_wp2
                go_ret3
                exact ⟨PIV.no _ _ (HNO2.out HF.out), HB4.out⟩
              | false =>
                rw [hq] at HC
                have HJ2 : Hid (∀ i, i < j + 1 → startsF m i [63, 62] = false) := fun i h1 => by
                  by_cases e : i = j
                  · subst e; exact hq
                  · exact HJ.out i (by omega)
                clear hq
                go_wp2_with fail
                refine HC.out.mono ?_
                rintro e w4 ⟨rfl, hb4⟩
                have HB4 := Lib.hid (HBJ.out.trans (hb4.mono HBJ.out.size))
                clear hb4
                go_wp2
                go_roundw
                case rel => exact ⟨j + 1, by omega, by go_num, HB4.out, HJ2.out⟩
                case measure => simp [intOf]; omega
            · have hlti : ¬ (j : Int) < (m.length : Int) := by omega
              have HFO : Hid (fo = none) := HFN.out fun i h1 h2 => HJ.out i (by simp at h2; omega)
              clear HFN HFS
              rename_i wr
              have HBR := Lib.hid HBJ.out
              go_wp2_with fail
              refine (HLD _ HBJ.out).out.mono ?_
              rintro e w4 ⟨rfl, rfl⟩
              go_wp2_with fail
              refine (HBY _ HBJ.out).out.mono ?_
              rintro e w5 ⟨v5, rfl, ⟨n5, ho5⟩, hb5⟩
              obtain ⟨A6, c6, rfl, hr6⟩ := own_form ho5
              have hcv := run_bytes_string hr6 49 9 5 Tryz.underlying49 Tryz.underlying5 Tryz.underlying9 (P := Tryz.prog)
              rw [← HZ.out] at hcv
              have HB5 := Lib.hid (HBJ.out.trans (hb5.mono HBJ.out.size))
              clear hb5 ho5 hr6 HBY HLD
              go_wp2_with fail
              refine (HPL _).out.mono ?_
              rintro e w6 ⟨rfl, hb6⟩
              have HB6 := Lib.hid (bt HB5.out hb6)
              clear hb6 hcv
              cases p with
              | false =>
                go_wp2
                go_ret3
                exact ⟨PIV.no _ _ (HNO2.out HIM.out), HB6.out⟩
              | true =>
                go_wp2_with fail
                refine (HLO _).out.mono ?_
                rintro e w7 ⟨rfl, rfl⟩
                cases x with
                | true =>
                  go_wp2
                  go_ret3
                  exact ⟨PIV.no _ _ (HNO2.out HIM.out), HB6.out⟩
                | false =>
                  go_wp2
                  go_loopw [13] (fun i wr => wr = w6 ∧ ∃ j : Nat, nn + j ≤ m.length ∧ i = .int .i64 (nn + j : Nat) ∧ Hid (∀ i, i < j → (h : nn + i < m.length) → isSpace m[nn + i] = true)) (fun i _ => m.length - (intOf i).toNat)
                  case atStart => exact ⟨rfl, 0, by omega, by go_num, fun i h => absurd h (by omega)⟩
                  case round =>
                    obtain ⟨rfl, k, hk, rfl, HK⟩ := hrel
                    have HSPC : Hid ((∀ h : nn + k < m.length, isSpace m[nn + k] = false) → sp = k) := fun h => HRN.out k HK.out hk h
                    by_cases hlk : nn + k < m.length
                    · have hlki : ((nn + k : Nat) : Int) < (m.length : Int) := by omega
                      obtain ⟨bk, o, rfl, hc0⟩ := (HR3.out.below HB6.out).rune hlk
                      have HSP := fun w => Lib.hid (RSpace_any m[nn + k] w)
                      cases hq : isSpace m[nn + k] with
                      | true =>
                        have HK2 : Hid (∀ i, i < k + 1 → (h : nn + i < m.length) → isSpace m[nn + i] = true) := fun i h1 h2 => by
                          by_cases e : i = k
                          · subst e; exact hq
                          · exact HK.out i (by omega) h2
                        rw [hq] at HSP
                        clear hq
                        generalize m[nn + k] = r at hc0 HSP
                        go_wp2_with fail
                        refine (HSP _).out.mono ?_
                        rintro e w8 ⟨rfl, rfl⟩
                        go_wp2
                        go_roundw
                        case rel => exact ⟨trivial, k + 1, by omega, by go_num, HK2.out⟩
                        case measure => simp [intOf]; omega
                      | false =>
                        have HSQ : Hid (sp = k) := HSPC.out fun _ => hq
                        rw [hq] at HSP
                        clear hq HSPC
                        generalize m[nn + k] = r at hc0 HSP
                        have hslk := HSL5.out (nn + k) hk
                        obtain ⟨A5, hr5, hsl5⟩ := hslk
                        rw [show ((nn + k : Nat) : Int) = (nn : Int) + (k : Int) by omega] at hsl5
                        have HR5 := Lib.hid (hr5.below HB6.out)
                        have HLN := Lib.hid (RLines_any S A5 _ _ _ _ HR5.out (by simp; omega))
                        have HYK : Hid (ok = true → piIn m = true → q = some (tb, linesF (m.drop (nn + k)))) := fun h1 h2 => by rw [← HSQ.out]; exact HY2.out h1 h2
                        clear hr5
                        generalize linesF (m.drop (nn + k)) = ln at HLN HYK
                        by_cases hs0 : k = 0
                        · have hkn : ((nn : Int) + (k : Int) == (nn : Int)) = true := by rw [hs0]; simp
                          have hnl : nn < m.length := by omega
                          have HF : Hid (piIn m = false) := by rw [Hid, HIM.out, HFO.out, HSQ.out, decide_eq_true hs0, decide_eq_true hnl]; rfl
                          have hnli : (nn : Int) < (m.length : Int) := by omega
                          clear hs0
                          go_wp2_with fail
                          refine (HSP _).out.mono ?_
                          rintro e w8 ⟨rfl, rfl⟩
                          go_wp2
                          go_ret3
                          exact ⟨PIV.no _ _ (HNO2.out HF.out), HB6.out⟩
                        · have HF : Hid (piIn m = true) := by rw [Hid, HIM.out, HFO.out, HSQ.out, decide_eq_false hs0, Bool.false_and]; rfl
                          have hkn : ((nn : Int) + (k : Int) == (nn : Int)) = false := by rw [beq_eq_false_iff_ne]; omega
                          clear hs0
                          go_wp2_with fail
                          refine (HSP _).out.mono ?_
                          rintro e w8 ⟨rfl, rfl⟩
                          go_wp2_with fail
                          refine HLN.out.mono ?_
                          rintro e w10 ⟨v10, rfl, ⟨n10, ho10⟩, hb10⟩
                          have HB10 := Lib.hid (bt HB6.out hb10)
                          have HV := Lib.hid (RunesV.of_own ho10)
                          clear hb10 ho10
                          go_wp2
                          go_ret3
                          refine ⟨?_, HB10.out⟩
                          rw [HYK.out HOK.out HF.out]
                          exact ⟨_, _, rfl, hzl, HV.out⟩
                    · have hlki : ¬ ((nn + k : Nat) : Int) < (m.length : Int) := by omega
                      have HSQ : Hid (sp = k) := HSPC.out fun h => absurd h hlk
                      clear HSPC
                      have hslk := HSL5.out (nn + k) hk
                      obtain ⟨A5, hr5, hsl5⟩ := hslk
                      rw [show ((nn + k : Nat) : Int) = (nn : Int) + (k : Int) by omega] at hsl5
                      have HR5 := Lib.hid (hr5.below HB6.out)
                      have HLN := Lib.hid (RLines_any S A5 _ _ _ _ HR5.out (by simp; omega))
                      have HYK : Hid (ok = true → piIn m = true → q = some (tb, linesF (m.drop (nn + k)))) := fun h1 h2 => by rw [← HSQ.out]; exact HY2.out h1 h2
                      clear hr5
                      generalize linesF (m.drop (nn + k)) = ln at HLN HYK
                      by_cases hs0 : k = 0
                      · have hkn : ((nn : Int) + (k : Int) == (nn : Int)) = true := by rw [hs0]; simp
                        have hnl : ¬ nn < m.length := by omega
                        have HF : Hid (piIn m = true) := by rw [Hid, HIM.out, HFO.out, HSQ.out, decide_eq_false hnl, Bool.and_false]; rfl
                        have hnli : ¬ (nn : Int) < (m.length : Int) := by omega
                        clear hs0
                        go_wp2_with fail
                        refine HLN.out.mono ?_
                        rintro e w10 ⟨v10, rfl, ⟨n10, ho10⟩, hb10⟩
                        have HB10 := Lib.hid (bt HB6.out hb10)
                        have HV := Lib.hid (RunesV.of_own ho10)
                        clear hb10 ho10
                        go_wp2
                        go_ret3
                        refine ⟨?_, HB10.out⟩
                        rw [HYK.out HOK.out HF.out]
                        exact ⟨_, _, rfl, hzl, HV.out⟩
                      · have HF : Hid (piIn m = true) := by rw [Hid, HIM.out, HFO.out, HSQ.out, decide_eq_false hs0, Bool.false_and]; rfl
                        have hkn : ((nn : Int) + (k : Int) == (nn : Int)) = false := by rw [beq_eq_false_iff_ne]; omega
                        clear hs0
                        go_wp2_with fail
                        refine HLN.out.mono ?_
                        rintro e w10 ⟨v10, rfl, ⟨n10, ho10⟩, hb10⟩
                        have HB10 := Lib.hid (bt HB6.out hb10)
                        have HV := Lib.hid (RunesV.of_own ho10)
                        clear hb10 ho10
                        go_wp2
                        go_ret3
                        refine ⟨?_, HB10.out⟩
                        rw [HYK.out HOK.out HF.out]
                        exact ⟨_, _, rfl, hzl, HV.out⟩
  · have h4i : (b : Int) - (a : Int) < 4 := by omega
    rw [decide_eq_false h4, Bool.false_and] at HOK
    clear hr
    go_enter Tryz.func8, Tryz.ntmps8
    go_wp2_with fail
    refine (HIN _).out.mono ?_
    rintro e w1 ⟨rfl, rfl⟩
    go_wp2
    go_ret3
    exact ⟨PIV.no _ _ (HNO.out HOK.out), Below.refl _ _⟩
end Go.Proofs.YtlnojpllgclgfaaGreat
namespace Go.Proofs.YtlnojpllgclgfaaGreat
open Go.RowKit Go.Lib
abbrev LeG (row : Option Nat) (w W : World) : Prop := w.grownBy W row
theorem LeG.refl (row : Option Nat) (w : World) : LeG row w w := ⟨rfl, rfl, rfl, Nat.le_refl _, fun _ _ _ => rfl⟩
theorem LeG.trans (row : Option Nat) (a b c : World) (h : LeG row a b) (k : LeG row b c) : LeG row a c :=
  ⟨k.os.trans h.os, k.tape.trans h.tape, k.output.trans h.output, Nat.le_trans h.size k.size, fun i hi hne => (k.block i (Nat.lt_of_lt_of_le hi h.size) hne).trans (h.block i hi hne)⟩
theorem LeG.cell {row : Option Nat} {w W : World} (h : LeG row w W) {p : Addr} {v : Value} (hc : w.cell? p = some v) (hp : row ≠ some p.block) : W.cell? p = some v :=
  (World.cell?_of_block (h.block _ (World.block_lt_of_cell? w p hc) (fun e => hp e.symm))).trans hc
section
variable {P : Program} {ops : Array Oper} {Q : Exit → Act → World → Prop} {md : Region.Mode} {Le : World → World → Prop}
end
end Go.Proofs.YtlnojpllgclgfaaGreat
namespace Go.Proofs.YtlnojpllgclgfaaGreat
open Go.RowKit Go.Lib
def isDig (r : Int) : Bool := (digitF r).2
def isHex (r : Int) : Bool := (hexF r).2
def endedF (l : List Int) (p n : Nat) : Bool := decide (0 < n) && (l[p + n]? == some 59)
def digN (l : List Int) (k : Nat) : Nat := ((l.drop (k + 2)).takeWhile isDig).length
def hexN (l : List Int) (k : Nat) : Nat := ((l.drop (k + 3)).takeWhile isHex).length
def refF (l : List Int) (k : Nat) : Nat × Nat × Bool :=
  if startsF l k [38, 35, 120] && endedF l (k + 3) (hexN l k) then (3, k + 4 + hexN l k, true)
  else if startsF l k [38, 35] && endedF l (k + 2) (digN l k) then (3, k + 3 + digN l k, true)
  else if endedF l (k + 1) (leadF l (k + 1)) then (2, k + 2 + leadF l (k + 1), true)
  else (11, k + 1, false)
def notAmp (r : Int) : Bool := r != 38
theorem refF_pos (l : List Int) (k : Nat) : k < (refF l k).2.1 := by
  unfold refF
  repeat' split
  all_goals (simp only; omega)
theorem ended_le (l : List Int) (p n : Nat) (h : endedF l p n = true) : p + n < l.length := by
  rw [endedF, Bool.and_eq_true, beq_iff_eq] at h
  exact (List.getElem?_eq_some_iff.1 h.2).1
theorem refF_le (l : List Int) (k : Nat) (hk : k < l.length) : (refF l k).2.1 ≤ l.length := by
  unfold refF
  split
  · rename_i h
    have := ended_le _ _ _ (Bool.and_eq_true_iff.1 h).2
    simp only; omega
  · split
    · rename_i h
      have := ended_le _ _ _ (Bool.and_eq_true_iff.1 h).2
      simp only; omega
    · split
      · rename_i h
        have := ended_le _ _ _ h
        simp only; omega
      · simp only; omega
end Go.Proofs.YtlnojpllgclgfaaGreat
namespace Go.Proofs.YtlnojpllgclgfaaGreat
open Go.RowKit Go.Lib
set_option maxRecDepth 100000 in
theorem LDigit_any (r : Int) (w : World) : Calls Tryz.prog 139 #[.int .i32 r] w fun e w' => e = .returned (.bool (isDig r)) ∧ w = w' := by
  have HD := Lib.hid (Digit_any r w)
  generalize (digitF r).1 = d1 at HD
  have HQ : Hid (isDig r = (digitF r).2) := rfl
  generalize (digitF r).2 = d2 at HD HQ
  go_enter Tryz.func139, Tryz.ntmps139
  go_wp2_with fail
  refine HD.out.mono ?_
  rintro e w' ⟨rfl, rfl⟩
  go_wp2
  go_ret
  exact ⟨ret_bool HQ.out.symm, rfl⟩
set_option maxRecDepth 100000 in
theorem LHex_any (r : Int) (w : World) : Calls Tryz.prog 140 #[.int .i32 r] w fun e w' => e = .returned (.bool (isHex r)) ∧ w = w' := by
  have HD := Lib.hid (Hex_any r w)
  generalize (hexF r).1 = d1 at HD
  have HQ : Hid (isHex r = (hexF r).2) := rfl
  generalize (hexF r).2 = d2 at HD HQ
  go_enter Tryz.func140, Tryz.ntmps140
  go_wp2_with fail
  refine HD.out.mono ?_
  rintro e w' ⟨rfl, rfl⟩
  go_wp2
  go_ret
  exact ⟨ret_bool HQ.out.symm, rfl⟩
theorem LDigit_ok (w : World) : PredOk Tryz.prog 139 #[] isDig w := fun W r _ => (LDigit_any r W).mono fun _ _ ⟨h1, h2⟩ => ⟨h1, h2 ▸ Below.refl _ _⟩
theorem LHex_ok (w : World) : PredOk Tryz.prog 140 #[] isHex w := fun W r _ => (LHex_any r W).mono fun _ _ ⟨h1, h2⟩ => ⟨h1, h2 ▸ Below.refl _ _⟩
end Go.Proofs.YtlnojpllgclgfaaGreat
namespace Go.Proofs.YtlnojpllgclgfaaGreat
open Go.RowKit Go.Lib
def isQuo (r : Int) : Bool := r == 34 || r == 39
def quoF (l : List Int) (q : Int) (k : Nat) : Nat × Bool := if h : k < l.length then (if l[k] = q then (k + 1, true) else quoF l q (k + 1)) else (l.length, false)
termination_by l.length - k
theorem quoF_hit (l : List Int) (q : Int) (k : Nat) (h : k < l.length) (hq : l[k] = q) : quoF l q k = (k + 1, true) := by rw [quoF, dif_pos h, if_pos hq]
theorem quoF_miss (l : List Int) (q : Int) (k : Nat) (h : k < l.length) (hq : l[k] ≠ q) : quoF l q k = quoF l q (k + 1) := by rw [quoF, dif_pos h, if_neg hq]
theorem quoF_end (l : List Int) (q : Int) (k : Nat) (h : ¬ k < l.length) : quoF l q k = (l.length, false) := by rw [quoF, dif_neg h]
theorem quoF_range (l : List Int) (q : Int) : ∀ (n k : Nat), l.length - k ≤ n → k ≤ l.length → k ≤ (quoF l q k).1 ∧ (quoF l q k).1 ≤ l.length ∧ (k < l.length → k < (quoF l q k).1 ∨ (quoF l q k).1 = l.length) := by
  intro n
  induction n with
  | zero =>
    intro k h hk
    rw [quoF_end l q k (by omega)]
    simp only; omega
  | succ n ih =>
    intro k h hk
    by_cases hlt : k < l.length
    · by_cases hq : l[k] = q
      · rw [quoF_hit l q k hlt hq]; simp only; omega
      · rw [quoF_miss l q k hlt hq]
        have := ih (k + 1) (by omega) (by omega)
        omega
    · rw [quoF_end l q k hlt]; simp only; omega
def quotedF (l : List Int) (k : Nat) : Nat × Bool := quoF l (l.getD k 0) (k + 1)
theorem quotedF_gt (l : List Int) (k : Nat) (h : k < l.length) : k < (quotedF l k).1 ∧ (quotedF l k).1 ≤ l.length := by
  have := quoF_range l (l.getD k 0) l.length (k + 1) (by omega) (by omega)
  unfold quotedF; omega
def angleF (l : List Int) (stops : Bool) (k : Nat) : Nat × Bool :=
  if h : k < l.length then
    (if isQuo l[k] then angleF l stops (quotedF l k).1 else if l[k] = 62 then (k, true) else if l[k] = 60 ∧ stops = true then (k, false) else angleF l stops (k + 1))
  else (l.length, false)
termination_by l.length - k
decreasing_by
  · have := quotedF_gt l k (by assumption); omega
  · omega
theorem angleF_end (l : List Int) (s : Bool) (k : Nat) (h : ¬ k < l.length) : angleF l s k = (l.length, false) := by rw [angleF, dif_neg h]
theorem angleF_quo (l : List Int) (s : Bool) (k : Nat) (h : k < l.length) (hq : isQuo l[k] = true) : angleF l s k = angleF l s (quotedF l k).1 := by
  conv => lhs; rw [angleF]
  rw [dif_pos h, if_pos hq]
theorem angleF_gt (l : List Int) (s : Bool) (k : Nat) (h : k < l.length) (hq : l[k] = 62) : angleF l s k = (k, true) := by
  rw [angleF, dif_pos h, if_neg (by rw [hq]; decide), if_pos hq]
theorem angleF_lt (l : List Int) (k : Nat) (h : k < l.length) (hq : l[k] = 60) : angleF l true k = (k, false) := by
  rw [angleF, dif_pos h, if_neg (by rw [hq]; decide), if_neg (by rw [hq]; decide), if_pos ⟨hq, rfl⟩]
theorem angleF_next (l : List Int) (s : Bool) (k : Nat) (h : k < l.length) (h1 : isQuo l[k] = false) (h2 : l[k] ≠ 62) (h3 : ¬ (l[k] = 60 ∧ s = true)) : angleF l s k = angleF l s (k + 1) := by
  conv => lhs; rw [angleF]
  rw [dif_pos h, if_neg (by simp [h1]), if_neg h2, if_neg h3]
theorem angleF_range (l : List Int) (s : Bool) : ∀ (n k : Nat), l.length - k ≤ n → k ≤ l.length → k ≤ (angleF l s k).1 ∧ (angleF l s k).1 ≤ l.length ∧ ((angleF l s k).2 = true → (angleF l s k).1 < l.length) := by
  intro n
  induction n with
  | zero =>
    intro k h hk
    rw [angleF_end l s k (by omega)]
    simp; omega
  | succ n ih =>
    intro k h hk
    by_cases hlt : k < l.length
    · cases hq : isQuo l[k] with
      | true =>
        have := quotedF_gt l k hlt
        have := ih (quotedF l k).1 (by omega) (by omega)
        rw [angleF_quo l s k hlt hq]; exact ⟨by omega, by omega, this.2.2⟩
      | false =>
        by_cases h2 : l[k] = 62
        · rw [angleF_gt l s k hlt h2]; simp; omega
        · by_cases h3 : l[k] = 60 ∧ s = true
          · obtain ⟨h3, rfl⟩ := h3
            rw [angleF_lt l k hlt h3]; simp; omega
          · have := ih (k + 1) (by omega) (by omega)
            rw [angleF_next l s k hlt hq h2 h3]; exact ⟨by omega, by omega, this.2.2⟩
    · rw [angleF_end l s k hlt]
      simp; omega
end Go.Proofs.YtlnojpllgclgfaaGreat
namespace Go.Proofs.YtlnojpllgclgfaaGreat
open Go.RowKit Go.Lib
def upToF (l : List Int) (kd k skip : Nat) (bs : List UInt8) : Nat × Nat × Bool := match findF l (min (k + skip) l.length) l.length bs with
  | none => (kd, l.length, false)
  | some j => (kd, j + bs.length, true)
def endGo (l : List Int) (k : Nat) : Nat × Bool := if h : k < l.length then (if l[k] = 62 then (k + 1, true) else if l[k] = 60 then (k, false) else endGo l (k + 1)) else (l.length, false)
termination_by l.length - k
def endTF (l : List Int) (k : Nat) : Nat × Nat × Bool := (10, (endGo l (k + 2)).1, (endGo l (k + 2)).2)
def startTF (l : List Int) (k : Nat) : Nat × Nat × Bool :=
  if (angleF l true (k + 1)).2 = false then (8, (angleF l true (k + 1)).1, false)
  else if l[(angleF l true (k + 1)).1 - 1]? = some 47 then (9, (angleF l true (k + 1)).1 + 1, true) else (8, (angleF l true (k + 1)).1 + 1, true)
theorem endGo_gt (l : List Int) (k : Nat) (h : k < l.length) (hq : l[k] = 62) : endGo l k = (k + 1, true) := by rw [endGo, dif_pos h, if_pos hq]
theorem endGo_lt (l : List Int) (k : Nat) (h : k < l.length) (hq : l[k] = 60) : endGo l k = (k, false) := by rw [endGo, dif_pos h, if_neg (by rw [hq]; decide), if_pos hq]
theorem endGo_next (l : List Int) (k : Nat) (h : k < l.length) (h1 : l[k] ≠ 62) (h2 : l[k] ≠ 60) : endGo l k = endGo l (k + 1) := by rw [endGo, dif_pos h, if_neg h1, if_neg h2]
theorem endGo_end (l : List Int) (k : Nat) (h : ¬ k < l.length) : endGo l k = (l.length, false) := by rw [endGo, dif_neg h]
end Go.Proofs.YtlnojpllgclgfaaGreat
namespace Go.Proofs.YtlnojpllgclgfaaGreat
open Go.RowKit Go.Lib
theorem findF_le (l : List Int) (k t : Nat) (bs : List UInt8) (j : Nat) (h : findF l k t bs = some j) : k ≤ j ∧ j < t + 1 - bs.length := by
  rw [findF, List.find?_range'_eq_some] at h
  have := List.mem_range'_1.1 h.2.1
  omega
theorem upToF_range (l : List Int) (kd k skip : Nat) (bs : List UInt8) (hk : k < l.length) (hb : 0 < bs.length) : k < (upToF l kd k skip bs).2.1 ∧ (upToF l kd k skip bs).2.1 ≤ l.length := by
  unfold upToF
  cases h : findF l (min (k + skip) l.length) l.length bs with
  | none => simp only; omega
  | some j =>
    have := findF_le l _ _ bs j h
    simp only; omega
def declF (l : List Int) (k : Nat) : Nat × Bool :=
  if startsF l k [60, 33, 45, 45] = true then ((upToF l 4 k 4 [45, 45, 62]).2.1, (upToF l 4 k 4 [45, 45, 62]).2.2)
  else if startsF l k [60, 63] = true then ((upToF l 5 k 2 [63, 62]).2.1, (upToF l 5 k 2 [63, 62]).2.2)
  else if l.getD k 0 = 60 then (min ((angleF l false k).1 + 1) l.length, (angleF l false k).2)
  else (k + 1, true)
theorem declF_range (l : List Int) (k : Nat) (hk : k < l.length) : k < (declF l k).1 ∧ (declF l k).1 ≤ l.length := by
  unfold declF
  split
  · exact upToF_range l 4 k 4 _ hk (by decide)
  · split
    · exact upToF_range l 5 k 2 _ hk (by decide)
    · split
      · have := angleF_range l false l.length k (by omega) (by omega)
        simp only; omega
      · simp only; omega
def subGo (l : List Int) (k : Nat) (ok : Bool) : Nat × Bool :=
  if h : k < l.length ∧ ok = true then (if l[k]'h.1 = 93 then (k + 1, true) else subGo l (declF l k).1 (declF l k).2) else (l.length, false)
termination_by l.length - k
decreasing_by
  have := declF_range l k h.1; omega
theorem subGo_hit (l : List Int) (k : Nat) (h : k < l.length) (hq : l[k] = 93) : subGo l k true = (k + 1, true) := by rw [subGo, dif_pos ⟨h, rfl⟩, if_pos hq]
theorem subGo_next (l : List Int) (k : Nat) (h : k < l.length) (hq : l[k] ≠ 93) : subGo l k true = subGo l (declF l k).1 (declF l k).2 := by
  conv => lhs; rw [subGo]
  rw [dif_pos ⟨h, rfl⟩, if_neg hq]
theorem subGo_end (l : List Int) (k : Nat) (ok : Bool) (h : ¬ (k < l.length ∧ ok = true)) : subGo l k ok = (l.length, false) := by rw [subGo, dif_neg h]
theorem subGo_range (l : List Int) : ∀ (n k : Nat) (ok : Bool), l.length - k ≤ n → k ≤ l.length → (k < (subGo l k ok).1 ∨ (subGo l k ok).1 = l.length) ∧ (subGo l k ok).1 ≤ l.length := by
  intro n
  induction n with
  | zero =>
    intro k ok h hk
    rw [subGo_end l k ok (by omega)]
    simp
  | succ n ih =>
    intro k ok h hk
    by_cases hlt : k < l.length ∧ ok = true
    · obtain ⟨hlt, rfl⟩ := hlt
      by_cases hq : l[k] = 93
      · rw [subGo_hit l k hlt hq]; simp only; omega
      · have := declF_range l k hlt
        have := ih (declF l k).1 (declF l k).2 (by omega) (by omega)
        rw [subGo_next l k hlt hq]; omega
    · rw [subGo_end l k ok hlt]; simp
def subF (l : List Int) (k : Nat) : Nat × Bool := subGo l (k + 1) true
end Go.Proofs.YtlnojpllgclgfaaGreat
namespace Go.Proofs.YtlnojpllgclgfaaGreat
open Go.RowKit Go.Lib
theorem subF_range (l : List Int) (k : Nat) (hk : k < l.length) : k < (subF l k).1 ∧ (subF l k).1 ≤ l.length := by
  have := subGo_range l l.length (k + 1) true (by omega) (by omega)
  unfold subF; omega
def docGo (l : List Int) (k : Nat) (ok : Bool) : Nat × Bool :=
  if h : k < l.length ∧ ok = true then
    (if l[k]'h.1 = 62 then (k + 1, true) else if isQuo (l[k]'h.1) then docGo l (quotedF l k).1 (quotedF l k).2 else if l[k]'h.1 = 91 then docGo l (subF l k).1 (subF l k).2 else docGo l (k + 1) true)
  else (l.length, false)
termination_by l.length - k
decreasing_by
  · have := quotedF_gt l k h.1; omega
  · have := subF_range l k h.1; omega
  · omega
theorem docGo_end (l : List Int) (k : Nat) (ok : Bool) (h : ¬ (k < l.length ∧ ok = true)) : docGo l k ok = (l.length, false) := by rw [docGo, dif_neg h]
theorem docGo_hit (l : List Int) (k : Nat) (h : k < l.length) (hq : l[k] = 62) : docGo l k true = (k + 1, true) := by rw [docGo, dif_pos ⟨h, rfl⟩, if_pos hq]
theorem docGo_quo (l : List Int) (k : Nat) (h : k < l.length) (h1 : l[k] ≠ 62) (hq : isQuo l[k] = true) : docGo l k true = docGo l (quotedF l k).1 (quotedF l k).2 := by
  conv => lhs; rw [docGo]
  rw [dif_pos ⟨h, rfl⟩, if_neg h1, if_pos hq]
theorem docGo_sub (l : List Int) (k : Nat) (h : k < l.length) (hq : l[k] = 91) : docGo l k true = docGo l (subF l k).1 (subF l k).2 := by
  conv => lhs; rw [docGo]
  rw [dif_pos ⟨h, rfl⟩, if_neg (by rw [hq]; decide), if_neg (by rw [hq]; decide), if_pos hq]
theorem docGo_next (l : List Int) (k : Nat) (h : k < l.length) (h1 : l[k] ≠ 62) (h2 : isQuo l[k] = false) (h3 : l[k] ≠ 91) : docGo l k true = docGo l (k + 1) true := by
  conv => lhs; rw [docGo]
  rw [dif_pos ⟨h, rfl⟩, if_neg h1, if_neg (by simp [h2]), if_neg h3]
def docTF (l : List Int) (k : Nat) : Nat × Nat × Bool := (7, (docGo l (k + 9) true).1, (docGo l (k + 9) true).2)
def markupF (l : List Int) (k : Nat) : Nat × Nat × Bool :=
  if startsF l k [60, 33, 45, 45] = true then upToF l 4 k 4 [45, 45, 62]
  else if startsF l k [60, 33, 91, 67, 68, 65, 84, 65, 91] = true then upToF l 6 k 9 [93, 93, 62]
  else if startsF l k [60, 63] = true then upToF l 5 k 2 [63, 62]
  else if startsF l k [60, 33, 68, 79, 67, 84, 89, 80, 69] = true then docTF l k
  else if startsF l k [60, 47] = true then endTF l k
  else if 0 < leadF l (k + 1) then startTF l k
  else (11, k + 1, false)
def isPlain (r : Int) : Bool := r != 60 && (r != 38 && r != -1)
def nextTF (l : List Int) (k : Nat) : Nat × Nat × Bool :=
  if l.getD k 0 = 60 then markupF l k else if l.getD k 0 = 38 then refF l k else if l.getD k 0 = -1 then (11, k + 1, false)
  else (1, k + ((l.drop k).takeWhile isPlain).length, true)
end Go.Proofs.YtlnojpllgclgfaaGreat
namespace Go.Proofs.YtlnojpllgclgfaaGreat
open Go.RowKit Go.Lib
end Go.Proofs.YtlnojpllgclgfaaGreat
namespace Go.Proofs.YtlnojpllgclgfaaGreat
open Go.RowKit Go.Lib
theorem starts_fits2 (l : List Int) (k : Nat) (bs : List UInt8) (hk : k ≤ l.length) (h : startsF l k bs = true) : k + bs.length ≤ l.length := by
  by_cases hn : l.length < k + bs.length
  · rw [starts_short l k bs hn hk] at h; cases h
  · omega
set_option maxHeartbeats 400000 in
set_option maxRecDepth 100000 in
theorem LPlain_any (r : Int) (w : World) : Calls Tryz.prog 115 #[.int .i32 r] w fun e w' => e = .returned (.bool (isPlain r)) ∧ w = w' := by
  by_cases h1 : r = 60
  · subst h1
    go_enter Tryz.func115, Tryz.ntmps115
    go_wp2
    go_ret
    exact ⟨rfl, rfl⟩
  · have h1b : (r != 60) = true := by simpa using h1
    by_cases h2 : r = 38
    · subst h2
      clear h1
      go_enter Tryz.func115, Tryz.ntmps115
      go_wp2
      go_ret
      exact ⟨rfl, rfl⟩
    · have h2b : (r != 38) = true := by simpa using h2
      have HE : Hid (isPlain r = (r != -1)) := by rw [Hid, isPlain, h1b, h2b, Bool.true_and, Bool.true_and]
      clear h1 h2
      go_enter Tryz.func115, Tryz.ntmps115
      go_wp2
      go_ret
      exact ⟨ret_bool HE.out.symm, rfl⟩
theorem LPlain_ok (w : World) : PredOk Tryz.prog 115 #[] isPlain w := fun W r _ => (LPlain_any r W).mono fun _ _ ⟨h1, h2⟩ => ⟨h1, h2 ▸ Below.refl _ _⟩
end Go.Proofs.YtlnojpllgclgfaaGreat
namespace Go.Proofs.YtlnojpllgclgfaaGreat
open Go.RowKit Go.Lib
theorem endGo_range (l : List Int) : ∀ (n k : Nat), l.length - k ≤ n → k ≤ l.length → k ≤ (endGo l k).1 ∧ (endGo l k).1 ≤ l.length := by
  intro n
  induction n with
  | zero =>
    intro k h hk
    rw [endGo_end l k (by omega)]
    simp only; omega
  | succ n ih =>
    intro k h hk
    by_cases hlt : k < l.length
    · by_cases h1 : l[k] = 62
      · rw [endGo_gt l k hlt h1]; simp only; omega
      · by_cases h2 : l[k] = 60
        · rw [endGo_lt l k hlt h2]; simp only; omega
        · have := ih (k + 1) (by omega) (by omega)
          rw [endGo_next l k hlt h1 h2]; omega
    · rw [endGo_end l k hlt]; simp only; omega
theorem docGo_range (l : List Int) : ∀ (n k : Nat) (ok : Bool), l.length - k ≤ n → k ≤ l.length → k ≤ (docGo l k ok).1 ∧ (docGo l k ok).1 ≤ l.length := by
  intro n
  induction n with
  | zero =>
    intro k ok h hk
    rw [docGo_end l k ok (by omega)]
    simp only; omega
  | succ n ih =>
    intro k ok h hk
    by_cases hlt : k < l.length ∧ ok = true
    · obtain ⟨hlt, rfl⟩ := hlt
      by_cases h1 : l[k] = 62
      · rw [docGo_hit l k hlt h1]; simp only; omega
      · cases h2 : isQuo l[k] with
        | true =>
          have := quotedF_gt l k hlt
          have := ih (quotedF l k).1 (quotedF l k).2 (by omega) (by omega)
          rw [docGo_quo l k hlt h1 h2]; omega
        | false =>
          by_cases h3 : l[k] = 91
          · have := subF_range l k hlt
            have := ih (subF l k).1 (subF l k).2 (by omega) (by omega)
            rw [docGo_sub l k hlt h3]; omega
          · have := ih (k + 1) true (by omega) (by omega)
            rw [docGo_next l k hlt h1 h2 h3]; omega
    · rw [docGo_end l k ok hlt]; simp only; omega
theorem markupF_range (l : List Int) (k : Nat) (hk : k < l.length) : k < (markupF l k).2.1 ∧ (markupF l k).2.1 ≤ l.length := by
  unfold markupF
  split
  · exact upToF_range l _ k _ _ hk (by decide)
  · split
    · exact upToF_range l _ k _ _ hk (by decide)
    · split
      · exact upToF_range l _ k _ _ hk (by decide)
      · split
        · rename_i h
          have h9 := starts_fits2 l k _ (by omega) h
          have h9 : k + 9 ≤ l.length := by simpa using h9
          have := docGo_range l l.length (k + 9) true (by omega) (by omega)
          unfold docTF; simp only; omega
        · split
          · rename_i h
            have h2 := starts_fits2 l k _ (by omega) h
            have h2 : k + 2 ≤ l.length := by simpa using h2
            have := endGo_range l l.length (k + 2) (by omega) (by omega)
            unfold endTF; simp only; omega
          · split
            · have h := angleF_range l true l.length (k + 1) (by omega) (by omega)
              unfold startTF
              split
              · simp only; omega
              · rename_i hb
                have := h.2.2 (by simpa using hb)
                split <;> (simp only; omega)
            · simp only; omega
theorem nextTF_range (l : List Int) (k : Nat) (hk : k < l.length) : k < (nextTF l k).2.1 ∧ (nextTF l k).2.1 ≤ l.length := by
  unfold nextTF
  rw [getD_at hk]
  split
  · exact markupF_range l k hk
  · split
    · exact ⟨refF_pos l k, refF_le l k hk⟩
    · split
      · simp only; omega
      · rename_i h1 h2 h3
        have hp : isPlain l[k] = true := by simp [isPlain, h1, h2, h3]
        have hs := (List.takeWhile_sublist isPlain (l := l.drop k)).length_le
        rw [List.length_drop] at hs
        rw [List.drop_eq_getElem_cons hk, List.takeWhile_cons, hp] at hs ⊢
        simp only [if_true, List.length_cons] at hs ⊢
        omega
def tokensGo (l : List Int) (k : Nat) : List ((Nat × Nat × Bool) × Nat) := if h : k < l.length then (nextTF l k, k) :: tokensGo l (nextTF l k).2.1 else []
termination_by l.length - k
decreasing_by
  have := nextTF_range l k h; omega
theorem tokensGo_cons (l : List Int) (k : Nat) (h : k < l.length) : tokensGo l k = (nextTF l k, k) :: tokensGo l (nextTF l k).2.1 := by
  conv => lhs; rw [tokensGo]
  rw [dif_pos h]
theorem tokensGo_nil (l : List Int) (k : Nat) (h : ¬ k < l.length) : tokensGo l k = [] := by rw [tokensGo, dif_neg h]
end Go.Proofs.YtlnojpllgclgfaaGreat
namespace Go.Proofs.YtlnojpllgclgfaaGreat
open Go.RowKit Go.Lib
end Go.Proofs.YtlnojpllgclgfaaGreat
namespace Go.Proofs.YtlnojpllgclgfaaGreat
open Go.RowKit Go.Lib
set_option maxRecDepth 100000 in
theorem NotAmp_any (r : Int) (w : World) : Calls Tryz.prog 74 #[.int .i32 r] w fun e w' => e = .returned (.bool (notAmp r)) ∧ w = w' := by
  go_enter Tryz.func74, Tryz.ntmps74
  go_wp2
  go_ret
  exact ⟨rfl, rfl⟩
theorem NotAmp_ok (w : World) : PredOk Tryz.prog 74 #[] notAmp w := fun W r _ => (NotAmp_any r W).mono fun _ _ ⟨h1, h2⟩ => ⟨h1, h2 ▸ Below.refl _ _⟩
end Go.Proofs.YtlnojpllgclgfaaGreat
