/-
  Layer 16 (dtd): PI: the document's. Rows of at most 10000000 runes.
-/
import Derived.Test.YtbbplpmaknaadaaLexI
import Derived.Test.YtbbplpmaknaadaaNormC
namespace Go.Proofs.Ytbbplpmaknaadaa
open Go.RowKit Go.Lib

theorem findF_some (l : List Int) (k t : Nat) (bs : List UInt8) (j : Nat) (hk : k ≤ j) (ht : j + bs.length ≤ t) (hj : startsF l j bs = true) : (findF l k t bs).isSome = true := by
  cases hf : findF l k t bs with
  | some v => rfl
  | none =>
    rw [findF, List.find?_eq_none] at hf
    exact absurd hj (hf j (List.mem_range'_1.2 ⟨hk, by omega⟩))
theorem starts_fits (l : List Int) (k : Nat) (bs : List UInt8) (hk : k ≤ l.length) (h : startsF l k bs = true) : k + bs.length ≤ l.length := by
  by_cases hn : l.length < k + bs.length
  · rw [starts_short l k bs hn hk] at h; cases h
  · omega
theorem I32.sub {l m : List Int} (h : I32 l) (hs : ∀ x ∈ m, x ∈ l) : I32 m := fun x hx => h x (hs x hx)
theorem runF_nat (p : Int → Bool) (m : List Int) (k : Nat) (hk : k ≤ m.length) : runF p m k = ((m.drop k).takeWhile p).length := by
  unfold runF
  rw [if_neg (by omega), Int.toNat_natCast]

set_option maxHeartbeats 4000000 in
set_option maxRecDepth 100000 in
theorem RPI16_any (S : Nat → Prop) (A : Option Addr) (n c : Nat) (l : List Int) (a b : Nat) (w : World) (hr : Rd w S 1 A n c (rc l)) (hab : a ≤ b) (hbl : b ≤ l.length) (hl9 : l.length ≤ 10000000) (hi : I32 l) :
    Calls Try.prog 69 #[.slice A n c, .int .i64 a, .int .i64 b] w fun e w' => PIV w' (piF l a b) e ∧ Below w.heap.size w w' := by
  obtain rfl := hr.rlen
  have hle := hr.le
  have hmx : c ≤ 9223372036854775807 := hr.max
  have hm : mayF l.length a b = true := by simp [mayF]; omega
  have HIN := fun W => Lib.hid (RMay_any A l.length c a b W)
  simp only [hm] at HIN
  clear hm
  have HNO := Lib.hid (piF_no l a b)
  have HNO2 := Lib.hid (piF_no2 l a b)
  have HYES := Lib.hid (piF_yes l a b)
  have HOK : Hid (piOk l a b = (decide (4 ≤ b - a) && (startsF l a [60, 63] && (startsF l (b - 2) [63, 62] && ((l.drop a).take (b - a)).all isChar)))) := rfl
  generalize piF l a b = q at HNO HNO2 HYES ⊢
  generalize piOk l a b = ok at HOK HNO HYES
  by_cases h4 : 4 ≤ b - a
  · have h4i : ¬ (b : Int) - (a : Int) < 4 := by omega
    rw [decide_eq_true h4, Bool.true_and] at HOK
    have HS1 : ∀ W, Below w.heap.size w W → Hid (Calls Try.prog 89 #[.slice A l.length c, .int .i64 a, .string ⟨#[60, 63]⟩] W fun e w' => e = .returned (.bool (startsF l a [60, 63])) ∧ Below W.heap.size W w') :=
      fun W h => RStarts_any S A l.length c l a ⟨#[60, 63]⟩ W (hr.below h) (by omega) (by omega) (by decide) hi
    have HS2 : ∀ W, Below w.heap.size w W → Hid (Calls Try.prog 89 #[.slice A l.length c, .int .i64 ((b : Int) - 2), .string ⟨#[63, 62]⟩] W fun e w' => e = .returned (.bool (startsF l (b - 2) [63, 62])) ∧ Below W.heap.size W w') := by
      intro W h
      rw [show ((b : Int) - 2) = ((b - 2 : Nat) : Int) by omega]
      exact RStarts_any S A l.length c l (b - 2) ⟨#[63, 62]⟩ W (hr.below h) (by omega) (by omega) (by decide) hi
    obtain ⟨A2, hr2, hsl⟩ := hr.runesLH hab hbl
    have HCH := fun W (h : Below w.heap.size w W) => Lib.hid (RChars16_any S A2 (b - a) (c - a) _ W (hr2.below h) (by simp; omega))
    obtain ⟨A3, hr3, hsl3⟩ := hr.runesLH (j := a + 2) (k := b - 2) (by omega) (by omega)
    rw [show ((a + 2 : Nat) : Int) = (a : Int) + 2 by omega, show ((b - 2 : Nat) : Int) = (b : Int) - 2 by omega] at hsl3
    have hml := mid_len l a b hbl
    have hr3 : Rd w S 1 A3 (b - 2 - (a + 2)) (c - (a + 2)) (rc (midF l a b)) := hr3
    rw [← hml] at hr3 hsl3
    have hmi : I32 (midF l a b) := hi.sub fun x hx => List.mem_of_mem_drop (List.mem_of_mem_take hx)
    have hm9 : (midF l a b).length ≤ 10000000 := by omega
    have hcm : c - (a + 2) ≤ 9223372036854775807 := by omega
    have hlec := hr3.le
    clear hr hr2 hml hi
    generalize startsF l a [60, 63] = s1 at HS1 HOK
    generalize startsF l (b - 2) [63, 62] = s2 at HS2 HOK
    generalize ((l.drop a).take (b - a)).all isChar = ch at HCH HOK
    generalize c - (a + 2) = cm at hr3 hsl3 hcm hlec
    generalize midF l a b = m at hr3 hsl3 hm9 HNO2 HYES hlec hmi
    have HR3 := Lib.hid hr3
    have hn := lead_le m
    have hg := run_le isSpace m (leadF m 0) hn
    have HLD := fun W (h : Below w.heap.size w W) => Lib.hid (RLead_any S A3 m.length cm m 0 W (HR3.out.below h) (by omega) (by omega))
    obtain ⟨A4, hr4, hsl4⟩ := hr3.runesH hn
    have HR4 := Lib.hid hr4
    have htl := bytesF_len (m.take (leadF m 0))
    have HBY := fun W (h : Below w.heap.size w W) => Lib.hid (RBytes_any S A4 (leadF m 0) cm _ W (HR4.out.below h) (by simp; omega) (hmi.sub fun x hx => List.mem_of_mem_take hx))
    have HST := fun W (j : Nat) (hj : j ≤ m.length) (h : Below w.heap.size w W) => Lib.hid (RStarts_any S A3 m.length cm m j ⟨#[63, 62]⟩ W (HR3.out.below h) hj (by omega) (by decide) hmi)
    have HST : ∀ W (j : Nat), j ≤ m.length → Below w.heap.size w W → Hid (Calls Try.prog 89 #[.slice A3 m.length cm, .int .i64 j, .string ⟨#[63, 62]⟩] W fun e w' => e = .returned (.bool (startsF m j [63, 62])) ∧ Below W.heap.size W w') := HST
    have HSL5 := Lib.hid (fun (k : Nat) (hk : k ≤ m.length) => hr3.runesL hk)
    have HRN := Lib.hid (fun (j : Nat) h1 (h2 : leadF m 0 + j ≤ m.length) h3 => (runF_nat isSpace m (leadF m 0) hn).trans (takeWhile_upto isSpace m (leadF m 0) j h1 h2 h3))
    have HFN := Lib.hid (findF_none m 0 m.length [63, 62])
    have HFS := Lib.hid (fun j h2 h3 => findF_some m 0 m.length [63, 62] j (Nat.zero_le _) h2 h3)
    have HIM : Hid (piIn m = (plainF (bytesF (m.take (leadF m 0))) && (!xmlF (bytesF (m.take (leadF m 0))) && (!(findF m 0 m.length [63, 62]).isSome && !(decide (runF isSpace m (leadF m 0 : Nat) = 0) && decide (leadF m 0 < m.length)))))) := rfl
    have HY2 : Hid (ok = true → piIn m = true → q = some (bytesF (m.take (leadF m 0)), linesF (m.drop (leadF m 0 + runF isSpace m (leadF m 0 : Nat))))) := fun h1 h2 => HYES.out h1 h2
    clear hr3 hr4 HYES
    generalize bytesF (m.take (leadF m 0)) = tb at HBY HIM HY2 htl
    generalize runF isSpace m (leadF m 0 : Nat) = sp at HRN HIM HY2 hg
    have htb : tb.length ≤ 40000000 := by simp at htl; omega
    obtain ⟨z, hz⟩ : ∃ z : ByteArray, z = ⟨tb.toArray⟩ := ⟨_, rfl⟩
    have hzl : z.data.toList = tb := by rw [hz]
    have hzs : z.size ≤ 300000000 := by rw [hz]; simp [ByteArray.size]; omega
    have HPL := fun W => Lib.hid (RPlain_any z W hzs)
    have HLO := fun W => Lib.hid (RXml_any z W)
    rw [hzl] at HPL HLO
    generalize xmlF tb = x at HIM HLO
    generalize plainF tb = p at HPL HIM
    generalize findF m 0 m.length [63, 62] = fo at HFN HFS HIM
    generalize leadF m 0 = nn at HLD HBY HRN HIM HY2 hsl4 hn hg htl
    have HZ := Lib.hid hz
    have HMI := Lib.hid hmi
    clear htl hz hmi
    go_enter Try.func69, Try.ntmps69
    go_wp2_with fail
    refine (HIN _).out.mono ?_
    rintro e w1 ⟨rfl, rfl⟩
    go_wp2_with fail
    refine (HCH _ (Below.refl _ _)).out.mono ?_
    rintro e w3 ⟨rfl, rfl⟩
    cases ch with
    | false =>
      go_wp2
      go_ret3
      exact ⟨PIV.no _ _ (HNO.out (by rw [HOK.out, Bool.and_false, Bool.and_false])), Below.refl _ _⟩
    | true =>
      go_wp2_with fail
      refine (HS1 _ (Below.refl _ _)).out.mono ?_
      rintro e w1 ⟨rfl, hb1⟩
      have HB1 := Lib.hid hb1
      clear hb1
      cases s1 with
      | false =>
        go_wp2
        go_ret3
        exact ⟨PIV.no _ _ (HNO.out HOK.out), HB1.out⟩
      | true =>
        go_wp2_with fail
        refine (HS2 _ HB1.out).out.mono ?_
        rintro e w2 ⟨rfl, hb2⟩
        have HB2 := Lib.hid (bt HB1.out hb2)
        clear hb2 HS1 HS2 HCH HIN
        cases s2 with
        | false =>
          go_wp2
          go_ret3
          exact ⟨PIV.no _ _ (HNO.out HOK.out), HB2.out⟩
        | true =>
          go_wp2
          go_loopw [52] (fun i wr => ∃ j : Nat, j ≤ m.length ∧ i = .int .i64 j ∧ Hid (Below w.heap.size w wr) ∧ Hid (∀ i, i < j → startsF m i [63, 62] = false)) (fun i _ => m.length - (intOf i).toNat)
          case atStart => exact ⟨0, Nat.zero_le _, rfl, HB2.out, fun i h => absurd h (by omega)⟩
          case round =>
            obtain ⟨j, hj, rfl, HBJ, HJ⟩ := hrel
            by_cases hlt : j < m.length
            · have hlti : (j : Int) < (m.length : Int) := by omega
              have HC := HST _ j hj HBJ.out
              cases hq : startsF m j [63, 62] with
              | true =>
                rw [hq] at HC
                have HF : Hid (piIn m = false) := by
                  have hfit := starts_fits m j [63, 62] hj hq
                  rw [Hid, HIM.out, HFS.out j hfit hq]; simp
                clear hq
                go_wp2_with fail
                refine HC.out.mono ?_
                rintro e w4 ⟨rfl, hb4⟩
                have HB4 := Lib.hid (HBJ.out.trans (hb4.mono HBJ.out.size))
                clear hb4
                go_wp2
                go_ret3
                exact ⟨PIV.no _ _ (HNO2.out HF.out), HB4.out⟩
              | false =>
                rw [hq] at HC
                have HJ2 : Hid (∀ i, i < j + 1 → startsF m i [63, 62] = false) := fun i h1 => by
                  by_cases e : i = j
                  · subst e; exact hq
                  · exact HJ.out i (by omega)
                clear hq
                go_wp2_with fail
                refine HC.out.mono ?_
                rintro e w4 ⟨rfl, hb4⟩
                have HB4 := Lib.hid (HBJ.out.trans (hb4.mono HBJ.out.size))
                clear hb4
                go_wp2
                go_roundw
                case rel => exact ⟨j + 1, by omega, by go_num, HB4.out, HJ2.out⟩
                case measure => simp [intOf]; omega
            · have hlti : ¬ (j : Int) < (m.length : Int) := by omega
              have HFO : Hid (fo = none) := HFN.out fun i h1 h2 => HJ.out i (by simp at h2; omega)
              clear HFN HFS
              rename_i wr
              have HBR := Lib.hid HBJ.out
              go_wp2_with fail
              refine (HLD _ HBJ.out).out.mono ?_
              rintro e w4 ⟨rfl, rfl⟩
              go_wp2_with fail
              refine (HBY _ HBJ.out).out.mono ?_
              rintro e w5 ⟨v5, rfl, ⟨n5, ho5⟩, hb5⟩
              obtain ⟨A6, c6, rfl, hr6⟩ := own_form ho5
              have hcv := run_bytes_string hr6 88 9 5 Try.underlying88 Try.underlying5 Try.underlying9 (P := Try.prog)
              rw [← HZ.out] at hcv
              have HB5 := Lib.hid (HBJ.out.trans (hb5.mono HBJ.out.size))
              clear hb5 ho5 hr6 HBY HLD
              go_wp2_with fail
              refine (HPL _).out.mono ?_
              rintro e w6 ⟨rfl, hb6⟩
              have HB6 := Lib.hid (bt HB5.out hb6)
              clear hb6 hcv
              cases p with
              | false =>
                go_wp2
                go_ret3
                exact ⟨PIV.no _ _ (HNO2.out HIM.out), HB6.out⟩
              | true =>
                go_wp2_with fail
                refine (HLO _).out.mono ?_
                rintro e w7 ⟨rfl, rfl⟩
                cases x with
                | true =>
                  go_wp2
                  go_ret3
                  exact ⟨PIV.no _ _ (HNO2.out HIM.out), HB6.out⟩
                | false =>
                  go_wp2
                  go_loopw [13] (fun i wr => wr = w6 ∧ ∃ j : Nat, nn + j ≤ m.length ∧ i = .int .i64 (nn + j : Nat) ∧ Hid (∀ i, i < j → (h : nn + i < m.length) → isSpace m[nn + i] = true)) (fun i _ => m.length - (intOf i).toNat)
                  case atStart => exact ⟨rfl, 0, by omega, by go_num, fun i h => absurd h (by omega)⟩
                  case round =>
                    obtain ⟨rfl, k, hk, rfl, HK⟩ := hrel
                    have HSPC : Hid ((∀ h : nn + k < m.length, isSpace m[nn + k] = false) → sp = k) := fun h => HRN.out k HK.out hk h
                    by_cases hlk : nn + k < m.length
                    · have hlki : ((nn + k : Nat) : Int) < (m.length : Int) := by omega
                      obtain ⟨bk, o, rfl, hc0⟩ := (HR3.out.below HB6.out).rune hlk
                      have HSP := fun w => Lib.hid (RSpace_any m[nn + k] w)
                      cases hq : isSpace m[nn + k] with
                      | true =>
                        have HK2 : Hid (∀ i, i < k + 1 → (h : nn + i < m.length) → isSpace m[nn + i] = true) := fun i h1 h2 => by
                          by_cases e : i = k
                          · subst e; exact hq
                          · exact HK.out i (by omega) h2
                        rw [hq] at HSP
                        clear hq
                        generalize m[nn + k] = r at hc0 HSP
                        go_wp2_with fail
                        refine (HSP _).out.mono ?_
                        rintro e w8 ⟨rfl, rfl⟩
                        go_wp2
                        go_roundw
                        case rel => exact ⟨trivial, k + 1, by omega, by go_num, HK2.out⟩
                        case measure => simp [intOf]; omega
                      | false =>
                        have HSQ : Hid (sp = k) := HSPC.out fun _ => hq
                        rw [hq] at HSP
                        clear hq HSPC
                        generalize m[nn + k] = r at hc0 HSP
                        have hslk := HSL5.out (nn + k) hk
                        obtain ⟨A5, hr5, hsl5⟩ := hslk
                        rw [show ((nn + k : Nat) : Int) = (nn : Int) + (k : Int) by omega] at hsl5
                        have HR5 := Lib.hid (hr5.below HB6.out)
                        have HLN := Lib.hid (RLines_any S A5 _ _ _ _ HR5.out (by simp; omega))
                        have HYK : Hid (ok = true → piIn m = true → q = some (tb, linesF (m.drop (nn + k)))) := fun h1 h2 => by rw [← HSQ.out]; exact HY2.out h1 h2
                        clear hr5
                        generalize linesF (m.drop (nn + k)) = ln at HLN HYK
                        by_cases hs0 : k = 0
                        · have hkn : ((nn : Int) + (k : Int) == (nn : Int)) = true := by rw [hs0]; simp
                          have hnl : nn < m.length := by omega
                          have HF : Hid (piIn m = false) := by rw [Hid, HIM.out, HFO.out, HSQ.out, decide_eq_true hs0, decide_eq_true hnl]; rfl
                          have hnli : (nn : Int) < (m.length : Int) := by omega
                          clear hs0
                          go_wp2_with fail
                          refine (HSP _).out.mono ?_
                          rintro e w8 ⟨rfl, rfl⟩
                          go_wp2
                          go_ret3
                          exact ⟨PIV.no _ _ (HNO2.out HF.out), HB6.out⟩
                        · have HF : Hid (piIn m = true) := by rw [Hid, HIM.out, HFO.out, HSQ.out, decide_eq_false hs0, Bool.false_and]; rfl
                          have hkn : ((nn : Int) + (k : Int) == (nn : Int)) = false := by rw [beq_eq_false_iff_ne]; omega
                          clear hs0
                          go_wp2_with fail
                          refine (HSP _).out.mono ?_
                          rintro e w8 ⟨rfl, rfl⟩
                          go_wp2_with fail
                          refine HLN.out.mono ?_
                          rintro e w10 ⟨v10, rfl, ⟨n10, ho10⟩, hb10⟩
                          have HB10 := Lib.hid (bt HB6.out hb10)
                          have HV := Lib.hid (RunesV.of_own ho10)
                          clear hb10 ho10
                          go_wp2
                          go_ret3
                          refine ⟨?_, HB10.out⟩
                          rw [HYK.out HOK.out HF.out]
                          exact ⟨_, _, rfl, hzl, HV.out⟩
                    · have hlki : ¬ ((nn + k : Nat) : Int) < (m.length : Int) := by omega
                      have HSQ : Hid (sp = k) := HSPC.out fun h => absurd h hlk
                      clear HSPC
                      have hslk := HSL5.out (nn + k) hk
                      obtain ⟨A5, hr5, hsl5⟩ := hslk
                      rw [show ((nn + k : Nat) : Int) = (nn : Int) + (k : Int) by omega] at hsl5
                      have HR5 := Lib.hid (hr5.below HB6.out)
                      have HLN := Lib.hid (RLines_any S A5 _ _ _ _ HR5.out (by simp; omega))
                      have HYK : Hid (ok = true → piIn m = true → q = some (tb, linesF (m.drop (nn + k)))) := fun h1 h2 => by rw [← HSQ.out]; exact HY2.out h1 h2
                      clear hr5
                      generalize linesF (m.drop (nn + k)) = ln at HLN HYK
                      by_cases hs0 : k = 0
                      · have hkn : ((nn : Int) + (k : Int) == (nn : Int)) = true := by rw [hs0]; simp
                        have hnl : ¬ nn < m.length := by omega
                        have HF : Hid (piIn m = true) := by rw [Hid, HIM.out, HFO.out, HSQ.out, decide_eq_false hnl, Bool.and_false]; rfl
                        have hnli : ¬ (nn : Int) < (m.length : Int) := by omega
                        clear hs0
                        go_wp2_with fail
                        refine HLN.out.mono ?_
                        rintro e w10 ⟨v10, rfl, ⟨n10, ho10⟩, hb10⟩
                        have HB10 := Lib.hid (bt HB6.out hb10)
                        have HV := Lib.hid (RunesV.of_own ho10)
                        clear hb10 ho10
                        go_wp2
                        go_ret3
                        refine ⟨?_, HB10.out⟩
                        rw [HYK.out HOK.out HF.out]
                        exact ⟨_, _, rfl, hzl, HV.out⟩
                      · have HF : Hid (piIn m = true) := by rw [Hid, HIM.out, HFO.out, HSQ.out, decide_eq_false hs0, Bool.false_and]; rfl
                        have hkn : ((nn : Int) + (k : Int) == (nn : Int)) = false := by rw [beq_eq_false_iff_ne]; omega
                        clear hs0
                        go_wp2_with fail
                        refine HLN.out.mono ?_
                        rintro e w10 ⟨v10, rfl, ⟨n10, ho10⟩, hb10⟩
                        have HB10 := Lib.hid (bt HB6.out hb10)
                        have HV := Lib.hid (RunesV.of_own ho10)
                        clear hb10 ho10
                        go_wp2
                        go_ret3
                        refine ⟨?_, HB10.out⟩
                        rw [HYK.out HOK.out HF.out]
                        exact ⟨_, _, rfl, hzl, HV.out⟩
  · have h4i : (b : Int) - (a : Int) < 4 := by omega
    rw [decide_eq_false h4, Bool.false_and] at HOK
    clear hr
    go_enter Try.func69, Try.ntmps69
    go_wp2_with fail
    refine (HIN _).out.mono ?_
    rintro e w1 ⟨rfl, rfl⟩
    go_wp2
    go_ret3
    exact ⟨PIV.no _ _ (HNO.out HOK.out), Below.refl _ _⟩

end Go.Proofs.Ytbbplpmaknaadaa
