/-
  Parts of the proof, joined: RfC. Conditions: as each theorem says.
-/
import Derived.Test.YtblafdmmebiagaaQD04
import Derived.Deep.MidRow
namespace Go.Proofs.Ytblafdmmebiagaa
open Go.RowKit Go.Lib
theorem there_below {w W : World} {b o n : Nat} (h : w.there b o n) (hb : Below w.heap.size w W) (hlt : b < w.heap.size) : W.there b o n := fun j hj => by
  obtain ⟨h1, h2⟩ := h j hj
  refine ⟨?_, ?_⟩
  · rw [World.cell?_of_block (hb.block _ hlt)]; exact h1
  · rw [World.frozen?_of_block (hb.block _ hlt)]; exact h2
theorem there_lit (w : World) (cs : Array Value) (t : TypeId) : (w.alloc (.cells cs t)).there w.heap.size 0 cs.size := fun j hj => by
  refine ⟨?_, by simp⟩
  rw [World.cell?_alloc_at _ _ _ _ rfl]
  simp [hj]
theorem below_setCells2 {B : Nat} {w0 w : World} (h : Below B w0 w) (b : Nat) (hb : B ≤ b) (vs : List Value) (o : Nat) : Below B w0 (w.setCells b o vs) := by
  induction vs generalizing o w with
  | nil => exact h
  | cons v r ih => exact ih (h.setCell hb _) (o + 1)
theorem load_struct {P : Program} {T : TypeId} {d : TypeDesc} (W : World) (B : Nat) (vs : List Value) (ht : W.there B 0 vs.length) (hi : (P.info? T).map (·.size) = some vs.length)
    (hu : P.underlying T = some d) (hd : d.isRow = true) : (loadVar T ⟨B, 0, none⟩).run P (W.setCells B 0 vs) = .ok (.agg vs.toArray) (W.setCells B 0 vs) :=
  run_loadVar_mid (P := P) (W.setCells B 0 vs) B 0 T vs d (World.rangeAt_setCells_same W B 0 vs ht) hu hd hi
theorem there_cell {w : World} {b n : Nat} (h : w.there b 0 n) (i : Nat) (hi : i < n) : (∃ v, w.cell? ⟨b, i, none⟩ = some v) ∧ w.frozen? ⟨b, i, none⟩ = false := by
  have := h i hi
  rw [Nat.zero_add] at this
  exact ⟨Option.isSome_iff_exists.1 this.1, this.2⟩
theorem results_cell1 {P : Program} {fn : Func} {t : Tmp} {T : TypeId} {a : Addr} {v : Value} {w : World} (h : fn.results = #[.cell t T]) (tmps : Array Value)
    (ha : tmps.getD t undef = .pointer (some a)) (hl : (loadVar T a).run P w = .ok v w) : (results fn tmps).run P w = .ok v w := by
  have ha' : tmps[t]?.getD undef = .pointer (some a) := by simpa using ha
  simp [results, h, ha', asAddr, hl]
theorem results_cell2 {P : Program} {fn : Func} {t u : Tmp} {T : TypeId} {a : Addr} {v : Value} {w : World} (h : fn.results = #[.cell t T, .tmp u]) (tmps : Array Value)
    (ha : tmps.getD t undef = .pointer (some a)) (hl : (loadVar T a).run P w = .ok v w) : (results fn tmps).run P w = .ok (.tuple #[v, tmps.getD u undef]) w := by
  have ha' : tmps[t]?.getD undef = .pointer (some a) := by simpa using ha
  simp [results, h, ha', asAddr, hl]
set_option maxRecDepth 100000 in
theorem LDigit_any (r : Int) (w : World) : Calls Try.prog 96 #[.int .i32 r] w fun e w' => e = .returned (.bool (isDig r)) ∧ w = w' := by
  have HD := Lib.hid (Digit_any r w)
  generalize (digitF r).1 = d1 at HD
  have HQ : Hid (isDig r = (digitF r).2) := rfl
  generalize (digitF r).2 = d2 at HD HQ
  go_enter Try.func96, Try.ntmps96
  go_wp2_with fail
  refine HD.out.mono ?_
  rintro e w' ⟨rfl, rfl⟩
  go_wp2
  go_ret
  exact ⟨ret_bool HQ.out.symm, rfl⟩
set_option maxRecDepth 100000 in
theorem LHex_any (r : Int) (w : World) : Calls Try.prog 97 #[.int .i32 r] w fun e w' => e = .returned (.bool (isHex r)) ∧ w = w' := by
  have HD := Lib.hid (Hex_any r w)
  generalize (hexF r).1 = d1 at HD
  have HQ : Hid (isHex r = (hexF r).2) := rfl
  generalize (hexF r).2 = d2 at HD HQ
  go_enter Try.func97, Try.ntmps97
  go_wp2_with fail
  refine HD.out.mono ?_
  rintro e w' ⟨rfl, rfl⟩
  go_wp2
  go_ret
  exact ⟨ret_bool HQ.out.symm, rfl⟩
theorem LDigit_ok (w : World) : PredOk Try.prog 96 #[] isDig w := fun W r _ => (LDigit_any r W).mono fun _ _ ⟨h1, h2⟩ => ⟨h1, h2 ▸ Below.refl _ _⟩
theorem LHex_ok (w : World) : PredOk Try.prog 97 #[] isHex w := fun W r _ => (LHex_any r W).mono fun _ _ ⟨h1, h2⟩ => ⟨h1, h2 ▸ Below.refl _ _⟩
theorem eg_LDigit : ∀ args w, (callFunc 96 args).run Try.prog w = .ok (.enter 96 args) w := enters_of Try.func96 (by kernel_rfl) rfl
theorem eg_LHex : ∀ args w, (callFunc 97 args).run Try.prog w = .ok (.enter 97 args) w := enters_of Try.func97 (by kernel_rfl) rfl
set_option maxHeartbeats 1000000 in
set_option maxRecDepth 100000 in
theorem Ended_any (S : Nat → Prop) (A : Option Addr) (n c : Nat) (l : List Int) (p m : Nat) (w : World) (hr : Rd w S 1 A n c (rc l)) (hp : p ≤ 2000000000) (hm : m ≤ 2000000000) :
    Calls Try.prog 98 #[.slice A n c, .int .i64 p, .int .i64 m] w fun e w' => e = .returned (.bool (endedF l p m)) ∧ w = w' := by
  obtain rfl := hr.rlen
  have hle := hr.le
  have hmx : c ≤ 9223372036854775807 := hr.max
  by_cases h0 : 0 < m
  · have h0i : (m : Int) > 0 := by omega
    by_cases hlt : p + m < l.length
    · have hlti : (p : Int) + (m : Int) < (l.length : Int) := by omega
      obtain ⟨b, o, rfl, hc0⟩ := hr.rune hlt
      have HE : Hid (endedF l p m = (l[p + m] == 59)) := by
        rw [Hid, endedF, decide_eq_true h0, List.getElem?_eq_getElem hlt, Bool.true_and]
        rfl
      clear hr
      generalize l[p + m] = r at hc0 HE
      generalize endedF l p m = q at HE ⊢
      go_enter Try.func98, Try.ntmps98
      go_wp2
      go_ret
      exact ⟨ret_bool HE.out.symm, rfl⟩
    · have hlti : ¬ (p : Int) + (m : Int) < (l.length : Int) := by omega
      have HE : Hid (endedF l p m = false) := by rw [Hid, endedF, decide_eq_true h0, List.getElem?_eq_none (by omega)]; rfl
      clear hr
      go_enter Try.func98, Try.ntmps98
      go_wp2
      go_ret
      exact ⟨ret_bool HE.out.symm, rfl⟩
  · have h0i : ¬ (m : Int) > 0 := by omega
    have HE : Hid (endedF l p m = false) := by rw [Hid, endedF, decide_eq_false h0]; rfl
    clear hr
    go_enter Try.func98, Try.ntmps98
    go_wp2
    go_ret
    exact ⟨ret_bool HE.out.symm, rfl⟩
def tokV (t : Nat × Nat × Bool) (k : Nat) : Value := .agg #[.int .i64 t.1, .int .i64 k, .int .i64 t.2.1, .bool t.2.2]
theorem runMin (p : Int → Bool) (l : List Int) (k j : Nat) : runF p l ((min (k + j) l.length : Nat) : Int) = ((l.drop (k + j)).takeWhile p).length := by
  rw [runF, if_neg (by omega), Int.toNat_natCast]
  by_cases h : k + j ≤ l.length
  · rw [Nat.min_eq_left h]
  · rw [Nat.min_eq_right (by omega), List.drop_eq_nil_of_le (Nat.le_refl _), List.drop_eq_nil_of_le (by omega)]
set_option maxHeartbeats 2000000 in
set_option maxRecDepth 100000 in
theorem Ref_any (S : Nat → Prop) (A : Option Addr) (n c : Nat) (l : List Int) (k : Nat) (w : World) (hr : Rd w S 1 A n c (rc l)) (hk : k < l.length) (hl9 : l.length ≤ 1000000000) :
    Calls Try.prog 80 #[.slice A n c, .int .i64 k] w fun e w' => e = .returned (tokV (refF l k) k) ∧ Below w.heap.size w w' := by
  obtain rfl := hr.rlen
  have hle := hr.le
  have hmx : c ≤ 9223372036854775807 := hr.max
  have HR := Lib.hid hr
  have HRN : ∀ W, Below w.heap.size w W → Hid (Calls Try.prog 81 #[.slice A l.length c, .int .i64 (min (k + 2) l.length : Nat), .func (.func 96) #[] #[]] W fun e w' => e = .returned (.int .i64 (digN l k)) ∧ Below W.heap.size W w') := fun W h => by
    have := Run_any S A l.length c l (min (k + 2) l.length : Nat) 96 #[] isDig W eg_LDigit (HR.out.below h) (LDigit_ok W)
    rwa [runMin] at this
  have HRX : ∀ W, Below w.heap.size w W → Hid (Calls Try.prog 81 #[.slice A l.length c, .int .i64 (min (k + 3) l.length : Nat), .func (.func 97) #[] #[]] W fun e w' => e = .returned (.int .i64 (hexN l k)) ∧ Below W.heap.size W w') := fun W h => by
    have := Run_any S A l.length c l (min (k + 3) l.length : Nat) 97 #[] isHex W eg_LHex (HR.out.below h) (LHex_ok W)
    rwa [runMin] at this
  have hm2 : ∀ ts t W, (Builtin.min_ ts t #[.int .i64 ((k : Int) + 2), .int .i64 (l.length : Int)]).run Try.prog W = .ok (.int .i64 (min (k + 2) l.length : Nat)) W := fun ts t W => by
    rw [run_min_int2]
    congr 2
    split <;> omega
  have hm3 : ∀ ts t W, (Builtin.min_ ts t #[.int .i64 ((k : Int) + 3), .int .i64 (l.length : Int)]).run Try.prog W = .ok (.int .i64 (min (k + 3) l.length : Nat)) W := fun ts t W => by
    rw [run_min_int2]
    congr 2
    split <;> omega
  have HS1 : ∀ W, Below w.heap.size w W → Hid (Calls Try.prog 88 #[.slice A l.length c, .int .i64 k, .string ⟨#[38, 35, 120]⟩] W fun e w' => e = .returned (.bool (startsF l k [38, 35, 120])) ∧ Below W.heap.size W w') :=
    fun W h => Starts_any S A l.length c l k ⟨#[38, 35, 120]⟩ W (HR.out.below h) (by omega) hl9 (by decide)
  have HS2 : ∀ W, Below w.heap.size w W → Hid (Calls Try.prog 88 #[.slice A l.length c, .int .i64 k, .string ⟨#[38, 35]⟩] W fun e w' => e = .returned (.bool (startsF l k [38, 35])) ∧ Below W.heap.size W w') :=
    fun W h => Starts_any S A l.length c l k ⟨#[38, 35]⟩ W (HR.out.below h) (by omega) hl9 (by decide)
  have hdn : digN l k ≤ 1000000000 := by have := (List.takeWhile_sublist isDig (l := l.drop (k + 2))).length_le; rw [List.length_drop] at this; unfold digN; omega
  have hxn : hexN l k ≤ 1000000000 := by have := (List.takeWhile_sublist isHex (l := l.drop (k + 3))).length_le; rw [List.length_drop] at this; unfold hexN; omega
  have hln : leadF l (k + 1) ≤ 1000000000 := by
    rw [lead_shift l k 1]
    unfold leadF
    split
    · omega
    · split
      · have := (List.takeWhile_sublist isNameChar (l := (l.drop k).drop 1)).length_le
        simp only [List.length_drop] at this; omega
      · omega
  have HLD : ∀ W, Below w.heap.size w W → Hid (Calls Try.prog 86 #[.slice A l.length c, .int .i64 ((k : Int) + 1)] W fun e w' => e = .returned (.int .i64 (leadF l (k + 1))) ∧ Below W.heap.size W w') := fun W h => by
    rw [show ((k : Int) + 1) = ((k + 1 : Nat) : Int) by omega]
    exact NLead_any S A l.length c l (k + 1) W (HR.out.below h) (by omega)
  have HE1 : ∀ W, Below w.heap.size w W → Hid (Calls Try.prog 98 #[.slice A l.length c, .int .i64 ((k : Int) + 3), .int .i64 (hexN l k)] W fun e w' => e = .returned (.bool (endedF l (k + 3) (hexN l k))) ∧ W = w') := fun W h => by
    rw [show ((k : Int) + 3) = ((k + 3 : Nat) : Int) by omega]
    exact Ended_any S A l.length c l (k + 3) (hexN l k) W (HR.out.below h) (by omega) (by omega)
  have HE2 : ∀ W, Below w.heap.size w W → Hid (Calls Try.prog 98 #[.slice A l.length c, .int .i64 ((k : Int) + 2), .int .i64 (digN l k)] W fun e w' => e = .returned (.bool (endedF l (k + 2) (digN l k))) ∧ W = w') := fun W h => by
    rw [show ((k : Int) + 2) = ((k + 2 : Nat) : Int) by omega]
    exact Ended_any S A l.length c l (k + 2) (digN l k) W (HR.out.below h) (by omega) (by omega)
  have HE3 : ∀ W, Below w.heap.size w W → Hid (Calls Try.prog 98 #[.slice A l.length c, .int .i64 ((k : Int) + 1), .int .i64 (leadF l (k + 1))] W fun e w' => e = .returned (.bool (endedF l (k + 1) (leadF l (k + 1)))) ∧ W = w') := fun W h => by
    rw [show ((k : Int) + 1) = ((k + 1 : Nat) : Int) by omega]
    exact Ended_any S A l.length c l (k + 1) (leadF l (k + 1)) W (HR.out.below h) (by omega) (by omega)
  have HREF : Hid (refF l k = if startsF l k [38, 35, 120] && endedF l (k + 3) (hexN l k) then (3, k + 4 + hexN l k, true)
    else if startsF l k [38, 35] && endedF l (k + 2) (digN l k) then (3, k + 3 + digN l k, true)
    else if endedF l (k + 1) (leadF l (k + 1)) then (2, k + 2 + leadF l (k + 1), true) else (11, k + 1, false)) := rfl
  generalize startsF l k [38, 35, 120] = s1 at HS1 HREF
  generalize startsF l k [38, 35] = s2 at HS2 HREF
  generalize endedF l (k + 3) (hexN l k) = e1 at HE1 HREF
  generalize endedF l (k + 2) (digN l k) = e2 at HE2 HREF
  generalize endedF l (k + 1) (leadF l (k + 1)) = e3 at HE3 HREF
  generalize hexN l k = x at HRX HE1 HREF hxn
  generalize digN l k = nd at HRN HE2 HREF hdn
  generalize leadF l (k + 1) = d at HLD HE3 HREF hln
  generalize min (k + 2) l.length = m2 at HRN hm2
  generalize min (k + 3) l.length = m3 at HRX hm3
  clear hr
  go_enter Try.func80, Try.ntmps80
  go_wp2_with fail
  have HTH0 := Lib.hid (there_lit w #[.int .i64 0, .int .i64 0, .int .i64 0, .bool false] 109)
  have HB0 := Lib.hid (ba w (.cells #[.int .i64 0, .int .i64 0, .int .i64 0, .bool false] 109))
  have HSZ : Hid (w.heap.size + 1 ≤ (w.alloc (.cells #[.int .i64 0, .int .i64 0, .int .i64 0, .bool false] 109)).heap.size) := by simp [Hid]
  generalize w.alloc (.cells #[.int .i64 0, .int .i64 0, .int .i64 0, .bool false] 109) = W0 at HTH0 HB0 HSZ
  refine (HRN _ HB0.out).out.mono ?_
  rintro e w1 ⟨rfl, hb1⟩
  have HB1 := Lib.hid (HB0.out.trans (hb1.mono HB0.out.size))
  have HTH1 := Lib.hid (there_below HTH0.out hb1 (by have := HSZ.out; omega))
  have HLT : Hid (w.heap.size < w1.heap.size) := by have := HSZ.out; have := hb1.size; show _ < _; omega
  clear hb1
  go_wp2_with fail
  refine (HRX _ HB1.out).out.mono ?_
  rintro e w2 ⟨rfl, hb2⟩
  have HB2 := Lib.hid (HB1.out.trans (hb2.mono HB1.out.size))
  have HTH2 := Lib.hid (there_below HTH1.out hb2 HLT.out)
  have HLT := Lib.hid (Nat.lt_of_lt_of_le HLT.out hb2.size)
  clear hb2
  go_wp2_with fail
  refine (HLD _ HB2.out).out.mono ?_
  rintro e w3 ⟨rfl, hb3⟩
  have HB3 := Lib.hid (HB2.out.trans (hb3.mono HB2.out.size))
  have HTH3 := Lib.hid (there_below HTH2.out hb3 HLT.out)
  have HLT := Lib.hid (Nat.lt_of_lt_of_le HLT.out hb3.size)
  clear hb3
  go_wp2_with fail
  refine (HS1 _ HB3.out).out.mono ?_
  rintro e w4 ⟨rfl, hb4⟩
  have HB4 := Lib.hid (HB3.out.trans (hb4.mono HB3.out.size))
  have HTH4 := Lib.hid (there_below HTH3.out hb4 HLT.out)
  have HLT := Lib.hid (Nat.lt_of_lt_of_le HLT.out hb4.size)
  clear hb4 HB0 HB1 HB2 HB3 HTH0 HTH1 HTH2 HTH3 HRN HRX HLD HS1
  cases s1 with
  | true =>
    go_wp2_with fail
    refine (HE1 _ HB4.out).out.mono ?_
    rintro e wx ⟨rfl, rfl⟩
    cases e1 with
    | true =>
      have HV : Hid (tokV (refF l k) k = .agg #[.int .i64 3, .int .i64 k, .int .i64 ((k : Int) + 4 + (x : Int)), .bool true]) := by rw [Hid, HREF.out]; simp [tokV]
      have HL9 := Lib.hid (load_struct (P := Try.prog) (T := 109) w4 w.heap.size [.int .i64 3, .int .i64 k, .int .i64 ((k : Int) + 4 + (x : Int)), .bool true] HTH4.out (by kernel_rfl) Try.underlying109 rfl)
      have HB9 := Lib.hid (below_setCells2 HB4.out w.heap.size (Nat.le_refl _) [.int .i64 3, .int .i64 k, .int .i64 ((k : Int) + 4 + (x : Int)), .bool true] 0)
      obtain ⟨⟨z0, hz0⟩, hf0⟩ := there_cell HTH4.out 0 (by decide)
      obtain ⟨⟨z1, hz1⟩, hf1⟩ := there_cell HTH4.out 1 (by decide)
      obtain ⟨⟨z2, hz2⟩, hf2⟩ := there_cell HTH4.out 2 (by decide)
      obtain ⟨⟨z3, hz3⟩, hf3⟩ := there_cell HTH4.out 3 (by decide)
      go_wp2
      refine bodyPost_ret (results_cell1 rfl _ rfl HL9.out) rfl ?_
      rw [HV.out]
      exact ⟨rfl, HB9.out⟩
    | false =>
      go_wp2_with fail
      refine (HS2 _ HB4.out).out.mono ?_
      rintro e w5 ⟨rfl, hb5⟩
      have HB5 := Lib.hid (HB4.out.trans (hb5.mono HB4.out.size))
      have HTH5 := Lib.hid (there_below HTH4.out hb5 HLT.out)
      clear hb5
      cases s2 with
      | true =>
        go_wp2_with fail
        refine (HE2 _ HB5.out).out.mono ?_
        rintro e wx ⟨rfl, rfl⟩
        cases e2 with
        | true =>
          have HV : Hid (tokV (refF l k) k = .agg #[.int .i64 3, .int .i64 k, .int .i64 ((k : Int) + 3 + (nd : Int)), .bool true]) := by rw [Hid, HREF.out]; simp [tokV]
          have HL9 := Lib.hid (load_struct (P := Try.prog) (T := 109) w5 w.heap.size [.int .i64 3, .int .i64 k, .int .i64 ((k : Int) + 3 + (nd : Int)), .bool true] HTH5.out (by kernel_rfl) Try.underlying109 rfl)
          have HB9 := Lib.hid (below_setCells2 HB5.out w.heap.size (Nat.le_refl _) [.int .i64 3, .int .i64 k, .int .i64 ((k : Int) + 3 + (nd : Int)), .bool true] 0)
          obtain ⟨⟨z0, hz0⟩, hf0⟩ := there_cell HTH5.out 0 (by decide)
          obtain ⟨⟨z1, hz1⟩, hf1⟩ := there_cell HTH5.out 1 (by decide)
          obtain ⟨⟨z2, hz2⟩, hf2⟩ := there_cell HTH5.out 2 (by decide)
          obtain ⟨⟨z3, hz3⟩, hf3⟩ := there_cell HTH5.out 3 (by decide)
          go_wp2
          refine bodyPost_ret (results_cell1 rfl _ rfl HL9.out) rfl ?_
          rw [HV.out]
          exact ⟨rfl, HB9.out⟩
        | false =>
          go_wp2_with fail
          refine (HE3 _ HB5.out).out.mono ?_
          rintro e wx ⟨rfl, rfl⟩
          cases e3 with
          | true =>
            have HV : Hid (tokV (refF l k) k = .agg #[.int .i64 2, .int .i64 k, .int .i64 ((k : Int) + 2 + (d : Int)), .bool true]) := by rw [Hid, HREF.out]; simp [tokV]
            have HL9 := Lib.hid (load_struct (P := Try.prog) (T := 109) w5 w.heap.size [.int .i64 2, .int .i64 k, .int .i64 ((k : Int) + 2 + (d : Int)), .bool true] HTH5.out (by kernel_rfl) Try.underlying109 rfl)
            have HB9 := Lib.hid (below_setCells2 HB5.out w.heap.size (Nat.le_refl _) [.int .i64 2, .int .i64 k, .int .i64 ((k : Int) + 2 + (d : Int)), .bool true] 0)
            obtain ⟨⟨z0, hz0⟩, hf0⟩ := there_cell HTH5.out 0 (by decide)
            obtain ⟨⟨z1, hz1⟩, hf1⟩ := there_cell HTH5.out 1 (by decide)
            obtain ⟨⟨z2, hz2⟩, hf2⟩ := there_cell HTH5.out 2 (by decide)
            obtain ⟨⟨z3, hz3⟩, hf3⟩ := there_cell HTH5.out 3 (by decide)
            go_wp2
            refine bodyPost_ret (results_cell1 rfl _ rfl HL9.out) rfl ?_
            rw [HV.out]
            exact ⟨rfl, HB9.out⟩
          | false =>
            have HV : Hid (tokV (refF l k) k = .agg #[.int .i64 11, .int .i64 k, .int .i64 ((k : Int) + 1), .bool false]) := by rw [Hid, HREF.out]; simp [tokV]
            have HL9 := Lib.hid (load_struct (P := Try.prog) (T := 109) w5 w.heap.size [.int .i64 11, .int .i64 k, .int .i64 ((k : Int) + 1), .bool false] HTH5.out (by kernel_rfl) Try.underlying109 rfl)
            have HB9 := Lib.hid (below_setCells2 HB5.out w.heap.size (Nat.le_refl _) [.int .i64 11, .int .i64 k, .int .i64 ((k : Int) + 1), .bool false] 0)
            obtain ⟨⟨z0, hz0⟩, hf0⟩ := there_cell HTH5.out 0 (by decide)
            obtain ⟨⟨z1, hz1⟩, hf1⟩ := there_cell HTH5.out 1 (by decide)
            obtain ⟨⟨z2, hz2⟩, hf2⟩ := there_cell HTH5.out 2 (by decide)
            obtain ⟨⟨z3, hz3⟩, hf3⟩ := there_cell HTH5.out 3 (by decide)
            go_wp2
            refine bodyPost_ret (results_cell1 rfl _ rfl HL9.out) rfl ?_
            rw [HV.out]
            exact ⟨rfl, HB9.out⟩
      | false =>
        go_wp2_with fail
        refine (HE3 _ HB5.out).out.mono ?_
        rintro e wx ⟨rfl, rfl⟩
        cases e3 with
        | true =>
          have HV : Hid (tokV (refF l k) k = .agg #[.int .i64 2, .int .i64 k, .int .i64 ((k : Int) + 2 + (d : Int)), .bool true]) := by rw [Hid, HREF.out]; simp [tokV]
          have HL9 := Lib.hid (load_struct (P := Try.prog) (T := 109) w5 w.heap.size [.int .i64 2, .int .i64 k, .int .i64 ((k : Int) + 2 + (d : Int)), .bool true] HTH5.out (by kernel_rfl) Try.underlying109 rfl)
          have HB9 := Lib.hid (below_setCells2 HB5.out w.heap.size (Nat.le_refl _) [.int .i64 2, .int .i64 k, .int .i64 ((k : Int) + 2 + (d : Int)), .bool true] 0)
          obtain ⟨⟨z0, hz0⟩, hf0⟩ := there_cell HTH5.out 0 (by decide)
          obtain ⟨⟨z1, hz1⟩, hf1⟩ := there_cell HTH5.out 1 (by decide)
          obtain ⟨⟨z2, hz2⟩, hf2⟩ := there_cell HTH5.out 2 (by decide)
          obtain ⟨⟨z3, hz3⟩, hf3⟩ := there_cell HTH5.out 3 (by decide)
          go_wp2
          refine bodyPost_ret (results_cell1 rfl _ rfl HL9.out) rfl ?_
          rw [HV.out]
          exact ⟨rfl, HB9.out⟩
        | false =>
          have HV : Hid (tokV (refF l k) k = .agg #[.int .i64 11, .int .i64 k, .int .i64 ((k : Int) + 1), .bool false]) := by rw [Hid, HREF.out]; simp [tokV]
          have HL9 := Lib.hid (load_struct (P := Try.prog) (T := 109) w5 w.heap.size [.int .i64 11, .int .i64 k, .int .i64 ((k : Int) + 1), .bool false] HTH5.out (by kernel_rfl) Try.underlying109 rfl)
          have HB9 := Lib.hid (below_setCells2 HB5.out w.heap.size (Nat.le_refl _) [.int .i64 11, .int .i64 k, .int .i64 ((k : Int) + 1), .bool false] 0)
          obtain ⟨⟨z0, hz0⟩, hf0⟩ := there_cell HTH5.out 0 (by decide)
          obtain ⟨⟨z1, hz1⟩, hf1⟩ := there_cell HTH5.out 1 (by decide)
          obtain ⟨⟨z2, hz2⟩, hf2⟩ := there_cell HTH5.out 2 (by decide)
          obtain ⟨⟨z3, hz3⟩, hf3⟩ := there_cell HTH5.out 3 (by decide)
          go_wp2
          refine bodyPost_ret (results_cell1 rfl _ rfl HL9.out) rfl ?_
          rw [HV.out]
          exact ⟨rfl, HB9.out⟩
  | false =>
    go_wp2_with fail
    refine (HS2 _ HB4.out).out.mono ?_
    rintro e w5 ⟨rfl, hb5⟩
    have HB5 := Lib.hid (HB4.out.trans (hb5.mono HB4.out.size))
    have HTH5 := Lib.hid (there_below HTH4.out hb5 HLT.out)
    clear hb5
    cases s2 with
    | true =>
      go_wp2_with fail
      refine (HE2 _ HB5.out).out.mono ?_
      rintro e wx ⟨rfl, rfl⟩
      cases e2 with
      | true =>
        have HV : Hid (tokV (refF l k) k = .agg #[.int .i64 3, .int .i64 k, .int .i64 ((k : Int) + 3 + (nd : Int)), .bool true]) := by rw [Hid, HREF.out]; simp [tokV]
        have HL9 := Lib.hid (load_struct (P := Try.prog) (T := 109) w5 w.heap.size [.int .i64 3, .int .i64 k, .int .i64 ((k : Int) + 3 + (nd : Int)), .bool true] HTH5.out (by kernel_rfl) Try.underlying109 rfl)
        have HB9 := Lib.hid (below_setCells2 HB5.out w.heap.size (Nat.le_refl _) [.int .i64 3, .int .i64 k, .int .i64 ((k : Int) + 3 + (nd : Int)), .bool true] 0)
        obtain ⟨⟨z0, hz0⟩, hf0⟩ := there_cell HTH5.out 0 (by decide)
        obtain ⟨⟨z1, hz1⟩, hf1⟩ := there_cell HTH5.out 1 (by decide)
        obtain ⟨⟨z2, hz2⟩, hf2⟩ := there_cell HTH5.out 2 (by decide)
        obtain ⟨⟨z3, hz3⟩, hf3⟩ := there_cell HTH5.out 3 (by decide)
        go_wp2
        refine bodyPost_ret (results_cell1 rfl _ rfl HL9.out) rfl ?_
        rw [HV.out]
        exact ⟨rfl, HB9.out⟩
      | false =>
        go_wp2_with fail
        refine (HE3 _ HB5.out).out.mono ?_
        rintro e wx ⟨rfl, rfl⟩
        cases e3 with
        | true =>
          have HV : Hid (tokV (refF l k) k = .agg #[.int .i64 2, .int .i64 k, .int .i64 ((k : Int) + 2 + (d : Int)), .bool true]) := by rw [Hid, HREF.out]; simp [tokV]
          have HL9 := Lib.hid (load_struct (P := Try.prog) (T := 109) w5 w.heap.size [.int .i64 2, .int .i64 k, .int .i64 ((k : Int) + 2 + (d : Int)), .bool true] HTH5.out (by kernel_rfl) Try.underlying109 rfl)
          have HB9 := Lib.hid (below_setCells2 HB5.out w.heap.size (Nat.le_refl _) [.int .i64 2, .int .i64 k, .int .i64 ((k : Int) + 2 + (d : Int)), .bool true] 0)
          obtain ⟨⟨z0, hz0⟩, hf0⟩ := there_cell HTH5.out 0 (by decide)
          obtain ⟨⟨z1, hz1⟩, hf1⟩ := there_cell HTH5.out 1 (by decide)
          obtain ⟨⟨z2, hz2⟩, hf2⟩ := there_cell HTH5.out 2 (by decide)
          obtain ⟨⟨z3, hz3⟩, hf3⟩ := there_cell HTH5.out 3 (by decide)
          go_wp2
          refine bodyPost_ret (results_cell1 rfl _ rfl HL9.out) rfl ?_
          rw [HV.out]
          exact ⟨rfl, HB9.out⟩
        | false =>
          have HV : Hid (tokV (refF l k) k = .agg #[.int .i64 11, .int .i64 k, .int .i64 ((k : Int) + 1), .bool false]) := by rw [Hid, HREF.out]; simp [tokV]
          have HL9 := Lib.hid (load_struct (P := Try.prog) (T := 109) w5 w.heap.size [.int .i64 11, .int .i64 k, .int .i64 ((k : Int) + 1), .bool false] HTH5.out (by kernel_rfl) Try.underlying109 rfl)
          have HB9 := Lib.hid (below_setCells2 HB5.out w.heap.size (Nat.le_refl _) [.int .i64 11, .int .i64 k, .int .i64 ((k : Int) + 1), .bool false] 0)
          obtain ⟨⟨z0, hz0⟩, hf0⟩ := there_cell HTH5.out 0 (by decide)
          obtain ⟨⟨z1, hz1⟩, hf1⟩ := there_cell HTH5.out 1 (by decide)
          obtain ⟨⟨z2, hz2⟩, hf2⟩ := there_cell HTH5.out 2 (by decide)
          obtain ⟨⟨z3, hz3⟩, hf3⟩ := there_cell HTH5.out 3 (by decide)
          go_wp2
          refine bodyPost_ret (results_cell1 rfl _ rfl HL9.out) rfl ?_
          rw [HV.out]
          exact ⟨rfl, HB9.out⟩
    | false =>
      go_wp2_with fail
      refine (HE3 _ HB5.out).out.mono ?_
      rintro e wx ⟨rfl, rfl⟩
      cases e3 with
      | true =>
        have HV : Hid (tokV (refF l k) k = .agg #[.int .i64 2, .int .i64 k, .int .i64 ((k : Int) + 2 + (d : Int)), .bool true]) := by rw [Hid, HREF.out]; simp [tokV]
        have HL9 := Lib.hid (load_struct (P := Try.prog) (T := 109) w5 w.heap.size [.int .i64 2, .int .i64 k, .int .i64 ((k : Int) + 2 + (d : Int)), .bool true] HTH5.out (by kernel_rfl) Try.underlying109 rfl)
        have HB9 := Lib.hid (below_setCells2 HB5.out w.heap.size (Nat.le_refl _) [.int .i64 2, .int .i64 k, .int .i64 ((k : Int) + 2 + (d : Int)), .bool true] 0)
        obtain ⟨⟨z0, hz0⟩, hf0⟩ := there_cell HTH5.out 0 (by decide)
        obtain ⟨⟨z1, hz1⟩, hf1⟩ := there_cell HTH5.out 1 (by decide)
        obtain ⟨⟨z2, hz2⟩, hf2⟩ := there_cell HTH5.out 2 (by decide)
        obtain ⟨⟨z3, hz3⟩, hf3⟩ := there_cell HTH5.out 3 (by decide)
        go_wp2
        refine bodyPost_ret (results_cell1 rfl _ rfl HL9.out) rfl ?_
        rw [HV.out]
        exact ⟨rfl, HB9.out⟩
      | false =>
        have HV : Hid (tokV (refF l k) k = .agg #[.int .i64 11, .int .i64 k, .int .i64 ((k : Int) + 1), .bool false]) := by rw [Hid, HREF.out]; simp [tokV]
        have HL9 := Lib.hid (load_struct (P := Try.prog) (T := 109) w5 w.heap.size [.int .i64 11, .int .i64 k, .int .i64 ((k : Int) + 1), .bool false] HTH5.out (by kernel_rfl) Try.underlying109 rfl)
        have HB9 := Lib.hid (below_setCells2 HB5.out w.heap.size (Nat.le_refl _) [.int .i64 11, .int .i64 k, .int .i64 ((k : Int) + 1), .bool false] 0)
        obtain ⟨⟨z0, hz0⟩, hf0⟩ := there_cell HTH5.out 0 (by decide)
        obtain ⟨⟨z1, hz1⟩, hf1⟩ := there_cell HTH5.out 1 (by decide)
        obtain ⟨⟨z2, hz2⟩, hf2⟩ := there_cell HTH5.out 2 (by decide)
        obtain ⟨⟨z3, hz3⟩, hf3⟩ := there_cell HTH5.out 3 (by decide)
        go_wp2
        refine bodyPost_ret (results_cell1 rfl _ rfl HL9.out) rfl ?_
        rw [HV.out]
        exact ⟨rfl, HB9.out⟩
end Go.Proofs.Ytblafdmmebiagaa
