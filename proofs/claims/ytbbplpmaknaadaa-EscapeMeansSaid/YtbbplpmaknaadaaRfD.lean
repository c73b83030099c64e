/-
  Layer 14 (refs): worth, Number. Rows of at most 1000000000.
-/
import Derived.Test.YtbbplpmaknaadaaRfC
import Derived.Test.YtbbplpmaknaadaaLexC
namespace Go.Proofs.Ytbbplpmaknaadaa
open Go.RowKit Go.Lib

set_option maxHeartbeats 2000000 in
set_option maxRecDepth 100000 in
theorem NextAmp_any (S : Nat → Prop) (A : Option Addr) (n c : Nat) (l : List Int) (k : Nat) (w : World) (hr : Rd w S 1 A n c (rc l)) (h38 : l[k]? = some 38) (hl9 : l.length ≤ 1000000000) :
    Calls Try.prog 112 #[.slice A n c, .int .i64 k] w fun e w' => e = .returned (.tuple #[tokV (refF l k) k, .bool true]) ∧ Below w.heap.size w w' := by
  obtain rfl := hr.rlen
  have hle := hr.le
  have hmx : c ≤ 9223372036854775807 := hr.max
  obtain ⟨hk, h38⟩ := List.getElem?_eq_some_iff.1 h38
  obtain ⟨b, o, rfl, hc0⟩ := hr.rune hk
  rw [h38] at hc0
  have hca := fun ob => cell_keep (ba w ob) hc0
  have hki : ¬ (k : Int) ≥ (l.length : Int) := by omega
  have HRF := fun W (h : Below w.heap.size w W) => Lib.hid (Ref_any S _ _ c l k W (hr.below h) hk hl9)
  clear hr h38
  generalize refF l k = t at HRF ⊢
  obtain ⟨kd, to, wh⟩ := t
  have HRF : ∀ W, Below w.heap.size w W → Hid (Calls Try.prog 118 #[.slice (some ⟨b, o, none⟩) l.length c, .int .i64 k] W fun e w' => e = .returned (.agg #[.int .i64 kd, .int .i64 k, .int .i64 to, .bool wh]) ∧ Below W.heap.size W w') := HRF
  go_enter Try.func112, Try.ntmps112
  go_wp2_with fail
  have HTH0 := Lib.hid (there_lit w #[.int .i64 0, .int .i64 0, .int .i64 0, .bool false] 112)
  have HB0 := Lib.hid (ba w (.cells #[.int .i64 0, .int .i64 0, .int .i64 0, .bool false] 112))
  have HSZ : Hid (w.heap.size < (w.alloc (.cells #[.int .i64 0, .int .i64 0, .int .i64 0, .bool false] 112)).heap.size) := by simp [Hid]
  generalize w.alloc (.cells #[.int .i64 0, .int .i64 0, .int .i64 0, .bool false] 112) = W0 at HTH0 HB0 HSZ
  refine (HRF _ HB0.out).out.mono ?_
  rintro e w1 ⟨rfl, hb1⟩
  have HB1 := Lib.hid (HB0.out.trans (hb1.mono HB0.out.size))
  have hth := there_below HTH0.out hb1 HSZ.out
  have HL9 := Lib.hid (load_struct (P := Try.prog) (T := 112) w1 w.heap.size [.int .i64 kd, .int .i64 k, .int .i64 to, .bool wh] hth (by kernel_rfl) Try.underlying112 rfl)
  have HB9 := Lib.hid (below_setCells2 HB1.out w.heap.size (Nat.le_refl _) [.int .i64 kd, .int .i64 k, .int .i64 to, .bool wh] 0)
  obtain ⟨⟨z0, hz0⟩, hf0⟩ := there_cell hth 0 (by decide)
  obtain ⟨⟨z1, hz1⟩, hf1⟩ := there_cell hth 1 (by decide)
  obtain ⟨⟨z2, hz2⟩, hf2⟩ := there_cell hth 2 (by decide)
  obtain ⟨⟨z3, hz3⟩, hf3⟩ := there_cell hth 3 (by decide)
  clear hth hb1 HTH0 HRF
  go_wp2
  refine bodyPost_ret (results_cell2 rfl _ rfl HL9.out) rfl ?_
  exact ⟨rfl, HB9.out⟩

def worthTo (l : List Int) (base : Int) (j : Nat) : Int := (l.take j).foldl (fun v r => min (v * base + (hexF r).1) 1114112) 0
theorem worthTo_step (l : List Int) (base : Int) (j : Nat) (h : j < l.length) : worthTo l base (j + 1) = min (worthTo l base j * base + (hexF l[j]).1) 1114112 := by
  rw [worthTo, worthTo, List.take_succ_eq_append_getElem h, List.foldl_append]; rfl
theorem hexF_range (r : Int) : 0 ≤ (hexF r).1 ∧ (hexF r).1 ≤ 15 := by
  unfold hexF digitF
  repeat' split
  all_goals (simp only; omega)
theorem worthTo_range (l : List Int) (base : Int) (hb : 0 ≤ base) (j : Nat) : 0 ≤ worthTo l base j ∧ worthTo l base j ≤ 1114112 := by
  induction j with
  | zero => simp [worthTo]
  | succ j ih =>
    by_cases h : j < l.length
    · rw [worthTo_step l base j h]
      have := hexF_range l[j]
      have h2 : 0 ≤ worthTo l base j * base := Int.mul_nonneg ih.1 hb
      omega
    · have e : l.take (j + 1) = l.take j := by rw [List.take_of_length_le (by omega), List.take_of_length_le (by omega)]
      rw [worthTo, e]; exact ih

set_option maxHeartbeats 1000000 in
set_option maxRecDepth 100000 in
theorem Worth16_any (S : Nat → Prop) (A : Option Addr) (n c : Nat) (l : List Int) (w : World) (hr : Rd w S 1 A n c (rc l)) (_hl9 : l.length ≤ 1000000000) :
    Calls Try.prog 120 #[.slice A n c, .int .i64 16] w fun e w' => e = .returned (.int .i32 (worthF l 16)) ∧ w = w' := by
  obtain rfl := hr.rlen
  have hle := hr.le
  have hmx : c ≤ 9223372036854775807 := hr.max
  have HR := Lib.hid hr
  clear hr
  go_enter Try.func120, Try.ntmps120
  go_wp2
  go_loopw [5, 12] (fun v i wr => wr = w ∧ ∃ (j : Nat) (x : Int), j ≤ l.length ∧ i = .int .i64 j ∧ v = .int .i64 x ∧ 0 ≤ x ∧ x ≤ 1114112 ∧ Hid (x = worthTo l 16 j)) (fun _ i _ => l.length - (intOf i).toNat)
  case atStart => exact ⟨rfl, 0, 0, Nat.zero_le _, rfl, rfl, by omega, by omega, rfl⟩
  case round =>
    obtain ⟨rfl, j, x, hj, rfl, rfl, hx0, hx1, HX⟩ := hrel
    by_cases hlt : j < l.length
    · obtain ⟨b, u, rfl, hc0⟩ := HR.out.rune hlt
      have HST := Lib.hid (worthTo_step l 16 j hlt)
      have HH := fun w => Lib.hid (Hex_any l[j] w)
      obtain ⟨hd0, hd1⟩ := hexF_range l[j]
      rw [← HX.out] at HST
      generalize (hexF l[j]).1 = d at HST HH hd0 hd1
      generalize (hexF l[j]).2 = ok at HH
      generalize l[j] = r at hc0 HH
      go_wp2_with fail
      refine (HH _).out.mono ?_
      rintro e w' ⟨rfl, rfl⟩
      by_cases hbig : 1114112 < x * 16 + d
      · have HN := Lib.hid (HST.out.trans (show min (x * 16 + d) (1114112 : Int) = 1114112 by omega))
        go_wp2
        go_roundw
        case rel => exact ⟨trivial, j + 1, 1114112, by omega, by go_num, rfl, by omega, by omega, HN.out.symm⟩
        case measure => simp [intOf]; omega
      · have HN := Lib.hid (HST.out.trans (show min (x * 16 + d) (1114112 : Int) = x * 16 + d by omega))
        go_wp2
        go_roundw
        case rel => exact ⟨trivial, j + 1, x * 16 + d, by omega, by go_num, rfl, by omega, by omega, HN.out.symm⟩
        case measure => simp [intOf]; omega
    · have HE := HX.out
      rw [worthTo, List.take_of_length_le (by omega)] at HE
      go_wp2
      go_ret
      exact ⟨ret_int rfl, rfl⟩

set_option maxHeartbeats 1000000 in
set_option maxRecDepth 100000 in
theorem Worth10_any (S : Nat → Prop) (A : Option Addr) (n c : Nat) (l : List Int) (w : World) (hr : Rd w S 1 A n c (rc l)) (_hl9 : l.length ≤ 1000000000) :
    Calls Try.prog 120 #[.slice A n c, .int .i64 10] w fun e w' => e = .returned (.int .i32 (worthF l 10)) ∧ w = w' := by
  obtain rfl := hr.rlen
  have hle := hr.le
  have hmx : c ≤ 9223372036854775807 := hr.max
  have HR := Lib.hid hr
  clear hr
  go_enter Try.func120, Try.ntmps120
  go_wp2
  go_loopw [5, 12] (fun v i wr => wr = w ∧ ∃ (j : Nat) (x : Int), j ≤ l.length ∧ i = .int .i64 j ∧ v = .int .i64 x ∧ 0 ≤ x ∧ x ≤ 1114112 ∧ Hid (x = worthTo l 10 j)) (fun _ i _ => l.length - (intOf i).toNat)
  case atStart => exact ⟨rfl, 0, 0, Nat.zero_le _, rfl, rfl, by omega, by omega, rfl⟩
  case round =>
    obtain ⟨rfl, j, x, hj, rfl, rfl, hx0, hx1, HX⟩ := hrel
    by_cases hlt : j < l.length
    · obtain ⟨b, u, rfl, hc0⟩ := HR.out.rune hlt
      have HST := Lib.hid (worthTo_step l 10 j hlt)
      have HH := fun w => Lib.hid (Hex_any l[j] w)
      obtain ⟨hd0, hd1⟩ := hexF_range l[j]
      rw [← HX.out] at HST
      generalize (hexF l[j]).1 = d at HST HH hd0 hd1
      generalize (hexF l[j]).2 = ok at HH
      generalize l[j] = r at hc0 HH
      go_wp2_with fail
      refine (HH _).out.mono ?_
      rintro e w' ⟨rfl, rfl⟩
      by_cases hbig : 1114112 < x * 10 + d
      · have HN := Lib.hid (HST.out.trans (show min (x * 10 + d) (1114112 : Int) = 1114112 by omega))
        go_wp2
        go_roundw
        case rel => exact ⟨trivial, j + 1, 1114112, by omega, by go_num, rfl, by omega, by omega, HN.out.symm⟩
        case measure => simp [intOf]; omega
      · have HN := Lib.hid (HST.out.trans (show min (x * 10 + d) (1114112 : Int) = x * 10 + d by omega))
        go_wp2
        go_roundw
        case rel => exact ⟨trivial, j + 1, x * 10 + d, by omega, by go_num, rfl, by omega, by omega, HN.out.symm⟩
        case measure => simp [intOf]; omega
    · have HE := HX.out
      rw [worthTo, List.take_of_length_le (by omega)] at HE
      go_wp2
      go_ret
      exact ⟨ret_int rfl, rfl⟩

theorem ref_len (l : List Int) (h : (refF l 0).1 = 3) : 4 ≤ (refF l 0).2.1 := by
  unfold refF at h ⊢
  split
  · simp only; omega
  · rename_i h1
    rw [if_neg h1] at h
    split
    · rename_i h2
      have := (Bool.and_eq_true_iff.1 h2).2
      rw [endedF, Bool.and_eq_true, decide_eq_true_iff] at this
      simp only; omega
    · rename_i h2
      rw [if_neg h2] at h
      split at h <;> simp at h

set_option maxHeartbeats 2000000 in
set_option maxRecDepth 100000 in
theorem Number_any (S : Nat → Prop) (A : Option Addr) (n c : Nat) (l : List Int) (w : World) (hr : Rd w S 1 A n c (rc l)) (h38 : l[0]? = some 38) (hl9 : l.length ≤ 1000000000) :
    Calls Try.prog 113 #[.slice A n c] w fun e w' => e = .returned (.tuple #[.int .i32 ((numF l).getD 0), .bool (numF l).isSome]) ∧ Below w.heap.size w w' := by
  obtain rfl := hr.rlen
  have hle := hr.le
  have hmx : c ≤ 9223372036854775807 := hr.max
  have h0 : 0 < l.length := (List.getElem?_eq_some_iff.1 h38).1
  have HR := Lib.hid hr
  have HNX : Hid (Calls Try.prog 112 #[.slice A l.length c, .int .i64 0] w fun e w' => e = .returned (.tuple #[.agg #[.int .i64 (refF l 0).1, .int .i64 0, .int .i64 (refF l 0).2.1, .bool (refF l 0).2.2], .bool true]) ∧ Below w.heap.size w w') :=
    NextAmp_any S A _ c l 0 w hr h38 hl9
  have HN : Hid (numF l = if (refF l 0).1 = 3 ∧ (refF l 0).2.1 = l.length ∧ isChar (numV l) = true then some (numV l) else none) := rfl
  have HV : Hid (numV l = if l[2]? = some 120 then worthF ((l.drop 3).take (l.length - 1 - 3)) 16 else worthF ((l.drop 2).take (l.length - 1 - 2)) 10) := rfl
  have hl4 := ref_len l
  clear hr h38
  generalize numF l = q at HN ⊢
  generalize refF l 0 = t at HNX HN hl4
  obtain ⟨kd, to, wh⟩ := t
  by_cases h3 : kd = 3
  · subst h3
    have hl4 : 4 ≤ to := hl4 rfl
    by_cases hto : to = l.length
    · subst hto
      have h2 : 2 < l.length := by omega
      have h2i : (2 : Int) < (l.length : Int) := by omega
      have hcut : (3 : Int) ≤ (l.length : Int) - 1 := by omega
      have hcut2 : (2 : Int) ≤ (l.length : Int) - 1 := by omega
      have HN2 : Hid (q = if isChar (numV l) = true then some (numV l) else none) := by rw [Hid, HN.out]; simp
      obtain ⟨b, o, rfl, hc0⟩ := HR.out.rune h2
      have HC2 := Lib.hid (fun W (h : Below w.heap.size w W) => cell_keep h hc0)
      have HV2 := HV.out
      rw [List.getElem?_eq_getElem h2] at HV2
      clear HN HV
      by_cases h120 : l[2] = 120
      · rw [h120] at hc0 HC2
        rw [if_pos (by rw [h120])] at HV2
        obtain ⟨A3, hr3, hsl⟩ := HR.out.runesLH (j := 3) (k := l.length - 1) (by omega) (by omega)
        have hsl : ∀ W, (Instr.slice 22 (.slice (some ⟨b, o, none⟩) l.length c) (some (.int .i64 3)) (some (.int .i64 ((l.length : Int) - 1))) none).run Try.prog W = .ok (.slice A3 (l.length - 1 - 3) (c - 3)) W := by
          rw [show ((l.length : Int) - 1) = ((l.length - 1 : Nat) : Int) by omega]; exact hsl
        have HWO := fun W (h : Below w.heap.size w W) => Lib.hid (Worth16_any S A3 _ _ _ W (hr3.below h) (by simp; omega))
        rw [← HV2] at HWO
        clear HV2 hr3 h120
        generalize numV l = v at HWO HN2
        generalize l.length - 1 - 3 = nn at hsl HWO
        generalize c - 3 = cc at hsl HWO
        go_enter Try.func113, Try.ntmps113
        go_wp2_with fail
        refine HNX.out.mono ?_
        rintro e w1 ⟨rfl, hb1⟩
        have HB1 := Lib.hid (bt hb1 (ba w1 (.cells #[.int .i64 3, .int .i64 0, .int .i64 l.length, .bool wh] 112)))
        have hc1 := HC2.out _ HB1.out
        clear hb1
        go_wp2_with fail
        refine (HWO _ HB1.out).out.mono ?_
        rintro e w2 ⟨rfl, rfl⟩
        have HCH := fun W => Lib.hid (Char_any v W)
        generalize isChar v = ic at HCH HN2
        go_wp2_with fail
        refine (HCH _).out.mono ?_
        rintro e w3 ⟨rfl, hb3⟩
        cases ic with
        | false =>
          go_wp2
          go_ret2
          rw [HN2.out]
          exact ⟨rfl, bt HB1.out hb3⟩
        | true =>
          go_wp2
          go_ret2
          rw [HN2.out]
          exact ⟨rfl, bt HB1.out hb3⟩
      · have h120b : (l[2] == 120) = false := by simpa using h120
        rw [if_neg (by simpa using h120)] at HV2
        obtain ⟨A3, hr3, hsl⟩ := HR.out.runesLH (j := 2) (k := l.length - 1) (by omega) (by omega)
        have hsl : ∀ W, (Instr.slice 22 (.slice (some ⟨b, o, none⟩) l.length c) (some (.int .i64 2)) (some (.int .i64 ((l.length : Int) - 1))) none).run Try.prog W = .ok (.slice A3 (l.length - 1 - 2) (c - 2)) W := by
          rw [show ((l.length : Int) - 1) = ((l.length - 1 : Nat) : Int) by omega]; exact hsl
        have HWO := fun W (h : Below w.heap.size w W) => Lib.hid (Worth10_any S A3 _ _ _ W (hr3.below h) (by simp; omega))
        rw [← HV2] at HWO
        clear HV2 hr3 h120
        generalize l[2] = r2 at hc0 HC2 h120b
        generalize numV l = v at HWO HN2
        generalize l.length - 1 - 2 = nn at hsl HWO
        generalize c - 2 = cc at hsl HWO
        go_enter Try.func113, Try.ntmps113
        go_wp2_with fail
        refine HNX.out.mono ?_
        rintro e w1 ⟨rfl, hb1⟩
        have HB1 := Lib.hid (bt hb1 (ba w1 (.cells #[.int .i64 3, .int .i64 0, .int .i64 l.length, .bool wh] 112)))
        have hc1 := HC2.out _ HB1.out
        clear hb1
        go_wp2_with fail
        refine (HWO _ HB1.out).out.mono ?_
        rintro e w2 ⟨rfl, rfl⟩
        have HCH := fun W => Lib.hid (Char_any v W)
        generalize isChar v = ic at HCH HN2
        go_wp2_with fail
        refine (HCH _).out.mono ?_
        rintro e w3 ⟨rfl, hb3⟩
        cases ic with
        | false =>
          go_wp2
          go_ret2
          rw [HN2.out]
          exact ⟨rfl, bt HB1.out hb3⟩
        | true =>
          go_wp2
          go_ret2
          rw [HN2.out]
          exact ⟨rfl, bt HB1.out hb3⟩
    · have HN2 : Hid (q = none) := by rw [Hid, HN.out, if_neg (by rintro ⟨_, h, _⟩; exact hto h)]
      have htob : ((to : Int) != (l.length : Int)) = true := by simp; omega
      clear HN HV hto
      go_enter Try.func113, Try.ntmps113
      go_wp2_with fail
      refine HNX.out.mono ?_
      rintro e w1 ⟨rfl, hb1⟩
      go_wp2
      go_ret2
      rw [HN2.out]
      exact ⟨rfl, bt hb1 (ba _ _)⟩
  · have HN2 : Hid (q = none) := by rw [Hid, HN.out, if_neg (by rintro ⟨h, _⟩; exact h3 h)]
    have hkb : ((kd : Int) != 3) = true := by simp; omega
    clear HN HV h3
    go_enter Try.func113, Try.ntmps113
    go_wp2_with fail
    refine HNX.out.mono ?_
    rintro e w1 ⟨rfl, hb1⟩
    go_wp2
    go_ret2
    rw [HN2.out]
    exact ⟨rfl, bt hb1 (ba _ _)⟩

end Go.Proofs.Ytbbplpmaknaadaa
