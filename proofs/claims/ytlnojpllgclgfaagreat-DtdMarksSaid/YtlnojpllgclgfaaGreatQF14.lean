/- Parts of the proof; conditions as told. -/
import Derived.Test.YtlnojpllgclgfaaGreatQF04
import Derived.Test.YtlnojpllgclgfaaGreatQF13
import Derived.Test.YtlnojpllgclgfaaGreatQF12
set_option linter.unusedSimpArgs false
set_option linter.unusedVariables false
namespace Go.Proofs.YtlnojpllgclgfaaGreat
open Go.RowKit
theorem may_not {n : Nat} {a b : Int} (h : ¬ (0 ≤ a ∧ a ≤ b ∧ b ≤ n)) : mayF n a b = false := by
  simp only [mayF, Bool.and_eq_false_iff, decide_eq_false_iff_not]
  omega
set_option maxHeartbeats 1000000 in
set_option maxRecDepth 100000 in
theorem Comment16_no (A : Option Addr) (n c : Nat) (a b : Int) (w : World) (h : mayF n a b = false) :
    Calls Tryz.prog 9 #[.slice A n c, .int .i64 a, .int .i64 b] w fun e w' => e = .returned (.bool false) ∧ Below w.heap.size w w' := by
  have HIN := fun W => Lib.hid (In_any A n c a b W)
  simp only [h] at HIN
  clear h
  go_enter Tryz.func9, Tryz.ntmps9
  go_wp2_with fail
  refine (HIN _).out.mono ?_
  rintro e w1 ⟨rfl, rfl⟩
  go_wp2
  go_ret
  exact ⟨rfl, Below.refl _ _⟩
set_option maxHeartbeats 1000000 in
set_option maxRecDepth 100000 in
theorem RComment16_no (A : Option Addr) (n c : Nat) (a b : Int) (w : World) (h : mayF n a b = false) :
    Calls Tryz.prog 10 #[.slice A n c, .int .i64 a, .int .i64 b] w fun e w' => e = .returned (.bool false) ∧ Below w.heap.size w w' := by
  have HIN := fun W => Lib.hid (RMay_any A n c a b W)
  simp only [h] at HIN
  clear h
  go_enter Tryz.func10, Tryz.ntmps10
  go_wp2_with fail
  refine (HIN _).out.mono ?_
  rintro e w1 ⟨rfl, rfl⟩
  go_wp2
  go_ret
  exact ⟨rfl, Below.refl _ _⟩
set_option maxHeartbeats 1000000 in
set_option maxRecDepth 100000 in
theorem PI16_no (A : Option Addr) (n c : Nat) (a b : Int) (w : World) (h : mayF n a b = false) :
    Calls Tryz.prog 7 #[.slice A n c, .int .i64 a, .int .i64 b] w fun e w' => PIV w' none e ∧ Below w.heap.size w w' := by
  have HIN := fun W => Lib.hid (In_any A n c a b W)
  simp only [h] at HIN
  clear h
  go_enter Tryz.func7, Tryz.ntmps7
  go_wp2_with fail
  refine (HIN _).out.mono ?_
  rintro e w1 ⟨rfl, rfl⟩
  go_wp2
  go_ret3
  exact ⟨PIV.no _ _ rfl, Below.refl _ _⟩
set_option maxHeartbeats 1000000 in
set_option maxRecDepth 100000 in
theorem RPI16_no (A : Option Addr) (n c : Nat) (a b : Int) (w : World) (h : mayF n a b = false) :
    Calls Tryz.prog 8 #[.slice A n c, .int .i64 a, .int .i64 b] w fun e w' => PIV w' none e ∧ Below w.heap.size w w' := by
  have HIN := fun W => Lib.hid (RMay_any A n c a b W)
  simp only [h] at HIN
  clear h
  go_enter Tryz.func8, Tryz.ntmps8
  go_wp2_with fail
  refine (HIN _).out.mono ?_
  rintro e w1 ⟨rfl, rfl⟩
  go_wp2
  go_ret3
  exact ⟨PIV.no _ _ rfl, Below.refl _ _⟩
set_option maxRecDepth 100000 in
theorem few16_any (S : Nat → Prop) (A : Option Addr) (n c : Nat) (l : List Int) (w : World) (hr : Rd w S 1 A n c (rc l)) :
    Calls Tryz.prog 6 #[.slice A n c] w fun e w' => ∃ A' n', e = .returned (.slice A' n' c) ∧ Rd w S 1 A' n' c (rc (l.take 400)) ∧ w = w' := by
  obtain rfl := hr.rlen
  have hle := hr.le
  have hmx : c ≤ 9223372036854775807 := hr.max
  by_cases h : 400 < l.length
  · have hr2 := hr.take (k := 400) (by omega)
    rw [show (rc l).take (400 * 1) = rc (l.take 400) by rw [Nat.mul_one, rc, rc, List.map_take]] at hr2
    have HR := Lib.hid hr2
    clear hr2 hr
    go_enter Tryz.func6, Tryz.ntmps6
    go_wp2
    go_ret
    exact ⟨_, _, rfl, HR.out, rfl⟩
  · rw [show l.take 400 = l from List.take_of_length_le (by omega)]
    have HR := Lib.hid hr
    clear hr
    go_enter Tryz.func6, Tryz.ntmps6
    go_wp2
    go_ret
    exact ⟨_, _, rfl, HR.out, rfl⟩
set_option maxHeartbeats 2000000 in
set_option maxRecDepth 100000 in
theorem DtdMarks_w (S : Nat → Prop) (A : Option Addr) (n c : Nat) (l : List Int) (a b : Int) (w : World) (hr : Rd w S 1 A n c (rc l)) (q : Bool) (r : Option (List UInt8 × List Int))
    (c1 : ∀ (A' : Option Addr) (n' : Nat) (W : World), Rd W S 1 A' n' c (rc (l.take 400)) → Calls Tryz.prog 7 #[.slice A' n' c, .int .i64 a, .int .i64 b] W fun e w' => PIV w' r e ∧ Below W.heap.size W w')
    (c2 : ∀ (A' : Option Addr) (n' : Nat) (W : World), Rd W S 1 A' n' c (rc (l.take 400)) → Calls Tryz.prog 8 #[.slice A' n' c, .int .i64 a, .int .i64 b] W fun e w' => PIV w' r e ∧ Below W.heap.size W w')
    (c3 : ∀ (A' : Option Addr) (n' : Nat) (W : World), Rd W S 1 A' n' c (rc (l.take 400)) → Calls Tryz.prog 9 #[.slice A' n' c, .int .i64 a, .int .i64 b] W fun e w' => e = .returned (.bool q) ∧ Below W.heap.size W w')
    (c4 : ∀ (A' : Option Addr) (n' : Nat) (W : World), Rd W S 1 A' n' c (rc (l.take 400)) → Calls Tryz.prog 10 #[.slice A' n' c, .int .i64 a, .int .i64 b] W fun e w' => e = .returned (.bool q) ∧ Below W.heap.size W w') :
    Calls Tryz.prog 3 #[.slice A n c, .int .i64 a, .int .i64 b] w fun e w' => e = .returned (.bool true) ∧ Below w.heap.size w w' := by
  have cw : ∀ W : World, Calls Tryz.prog 11 #[] W fun e w' => e = .returned (.bool true) ∧ Below W.heap.size W w' := fun W => awake16_b.law W argL_nil
  have HC1 := Lib.hid c1
  have HC2 := Lib.hid c2
  have HC3 := Lib.hid c3
  have HC4 := Lib.hid c4
  have HCW := Lib.hid cw
  have HF := Lib.hid (few16_any S A n c l w hr)
  clear c1 c2 c3 c4 cw hr
  go_enter Tryz.func3, Tryz.ntmps3
  go_wp2_with (go_at_call 6; refine HF.out.mono ?_)
  rintro e w1 ⟨A1, n1, rfl, hr1, rfl⟩
  have HR1 := Lib.hid hr1
  clear hr1
  go_wp2_with (go_at_call 7; refine (HC1.out A1 n1 w HR1.out).mono ?_)
  rintro e w2 ⟨⟨s, v, rfl, hs, A2, n2, c2, rfl, hr2⟩, hb2⟩
  have HR2 := Lib.hid hr2
  have HB2 := Lib.hid hb2
  have HS := Lib.hid hs
  clear hr2 hb2 hs
  go_wp2_with (go_at_call 8; refine (HC2.out A1 n1 w2 (HR1.out.below HB2.out)).mono ?_)
  rintro e w3 ⟨⟨s', v', rfl, hs', A3, n3, c3, rfl, hr3⟩, hb3⟩
  have HB3 := Lib.hid (bt HB2.out hb3)
  have HR2' := Lib.hid (HR2.out.below (hb3.mono (Nat.le_refl _)))
  have hss : (s.toList == s'.toList) = true := by
    rw [ByteArray.toList_eq, ByteArray.toList_eq, HS.out, hs']; exact beq_self_eq_true _
  have HR3 := Lib.hid hr3
  clear hr3 hs' hb3 HR2 HS
  go_wp2_with (go_at_call 9; refine (HC3.out A1 n1 w3 (HR1.out.below HB3.out)).mono ?_)
  rintro e w4 ⟨rfl, hb4⟩
  have HB4 := Lib.hid (bt HB3.out hb4)
  have HR2 := Lib.hid (HR2'.out.below hb4)
  have HR3' := Lib.hid (HR3.out.below hb4)
  clear hb4 HR2' HR3
  go_wp2_with (go_at_call 10; refine (HC4.out A1 n1 w4 (HR1.out.below HB4.out)).mono ?_)
  rintro e w5 ⟨rfl, hb5⟩
  have HB5 := Lib.hid (bt HB4.out hb5)
  have hr2 := HR2.out.below hb5
  have hr3 := HR3'.out.below hb5
  clear hb5 HR2 HR3'
  generalize (r.map (·.2)).getD [] = D at hr2 hr3
  generalize r.isSome = ok
  obtain rfl := hr2.rlen
  obtain rfl := hr3.rlen
  have hcv2 := run_runes_string hr2 22 9 21 Tryz.underlying22 Tryz.underlying21 Tryz.underlying9
  have hcv3 := run_runes_string hr3 22 9 21 Tryz.underlying22 Tryz.underlying21 Tryz.underlying9
  have hdd : ((runesBytes D).toList == (runesBytes D).toList) = true := beq_self_eq_true _
  generalize runesBytes D = z at hcv2 hcv3 hdd
  clear hr2 hr3
  generalize D.length = dl at hcv2 hcv3 ⊢
  have hll : ((dl : Int) == (dl : Int)) = true := beq_self_eq_true _
  have hqq : (q == q) = true := beq_self_eq_true _
  have hoo : (ok == ok) = true := beq_self_eq_true _
  go_wp2_with (go_at_call 11; refine (HCW.out w5).mono ?_; rintro e w6 ⟨rfl, hb6⟩)
  go_ret
  exact ⟨rfl, bt HB5.out hb6⟩
end Go.Proofs.YtlnojpllgclgfaaGreat
namespace Go.Proofs.YtlnojpllgclgfaaGreat
open Go.RowKit Go.Lib
theorem row_i32 {w : World} {a : Option Addr} {len cap : Nat} {zs : List Int} (h : IsRowS .i32 w a len cap zs) : I32 (zs.take len) := fun x hx => by
  rcases h with ⟨_, _, _, rfl⟩ | ⟨_, _, _, _, _, _, hwf⟩
  · simp at hx
  · have h := hwf x (List.mem_of_mem_take hx)
    simp only [Lit.wf, Bool.and_eq_true, decide_eq_true_eq] at h
    exact h
theorem DtdMarks_any (S : Nat → Prop) (A : Option Addr) (n c : Nat) (l : List Int) (a b : Int) (w : World) (hr : Rd w S 1 A n c (rc l)) (hi : I32 l) :
    Calls Tryz.prog 3 #[.slice A n c, .int .i64 a, .int .i64 b] w fun e w' => e = .returned (.bool true) ∧ Below w.heap.size w w' := by
  have hl : (l.take 400).length ≤ 400 := by rw [List.length_take]; omega
  have hi2 : I32 (l.take 400) := fun x hx => hi x (List.mem_of_mem_take hx)
  by_cases h : 0 ≤ a ∧ a ≤ b ∧ b ≤ (l.take 400).length
  · obtain ⟨a', rfl⟩ : ∃ a' : Nat, a = a' := ⟨a.toNat, by omega⟩
    obtain ⟨b', rfl⟩ : ∃ b' : Nat, b = b' := ⟨b.toNat, by omega⟩
    have h1 : a' ≤ b' := by omega
    have h2 : b' ≤ (l.take 400).length := by omega
    exact DtdMarks_w S A n c l a' b' w hr _ _ (fun A' n' W q => PI16_any S A' n' c _ a' b' W q h1 h2 (by omega)) (fun A' n' W q => RPI16_any S A' n' c _ a' b' W q h1 h2 (by omega) hi2)
      (fun A' n' W q => Comment16_any S A' n' c _ a' b' W q h1 h2 (by omega)) (fun A' n' W q => RComment16_any S A' n' c _ a' b' W q h1 h2 (by omega) hi2)
  · have hm : ∀ {A' : Option Addr} {n' : Nat} {W : World}, Rd W S 1 A' n' c (rc (l.take 400)) → mayF n' a b = false := fun q => may_not (by rw [q.rlen]; exact h)
    exact DtdMarks_w S A n c l a b w hr false none (fun A' n' W q => PI16_no A' n' c a b W (hm q)) (fun A' n' W q => RPI16_no A' n' c a b W (hm q)) (fun A' n' W q => Comment16_no A' n' c a b W (hm q)) (fun A' n' W q => RComment16_no A' n' c a b W (hm q))
theorem DtdMarks_b (l : List Int) (a b : Int) (hi : I32 l) : BCall Tryz.prog 3 [.slc 1 (runesA l), .val (.int .i64 a), .val (.int .i64 b)] [] (.val (.bool true)) [] := by
  refine BCall.hand (enters_of Tryz.func3 (by kernel_rfl) rfl) fun w g vs M hL => ?_
  obtain ⟨v1, vs1, rfl, h1, hL⟩ := argsCons hL
  obtain ⟨v2, vs2, rfl, h2, hL⟩ := argsCons hL
  obtain ⟨v3, vs3, rfl, h3, hL⟩ := argsCons hL
  obtain rfl := argsNil hL
  obtain rfl := argVal h2
  obtain rfl := argVal h3
  obtain ⟨A, c, rfl, hr⟩ := runes_rd h1 M
  exact (DtdMarks_any _ A _ c l a b w hr hi).mono fun e w' ⟨h, hb⟩ => ⟨_, h, hb, PRel.val _ rfl⟩
end Go.Proofs.YtlnojpllgclgfaaGreat
