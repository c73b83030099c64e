/-
  Parts of the proof, joined: RfC LxA. Conditions: as each theorem says.
-/
import Derived.Test.YtblafdmmebiagaaQA03
import Derived.Deep.MidRow
namespace Go.Proofs.Ytblafdmmebiagaa
open Go.RowKit Go.Lib
theorem there_below {w W : World} {b o n : Nat} (h : w.there b o n) (hb : Below w.heap.size w W) (hlt : b < w.heap.size) : W.there b o n := fun j hj => by
  obtain ⟨h1, h2⟩ := h j hj
  refine ⟨?_, ?_⟩
  · rw [World.cell?_of_block (hb.block _ hlt)]; exact h1
  · rw [World.frozen?_of_block (hb.block _ hlt)]; exact h2
theorem there_lit (w : World) (cs : Array Value) (t : TypeId) : (w.alloc (.cells cs t)).there w.heap.size 0 cs.size := fun j hj => by
  refine ⟨?_, by simp⟩
  rw [World.cell?_alloc_at _ _ _ _ rfl]
  simp [hj]
theorem below_setCells2 {B : Nat} {w0 w : World} (h : Below B w0 w) (b : Nat) (hb : B ≤ b) (vs : List Value) (o : Nat) : Below B w0 (w.setCells b o vs) := by
  induction vs generalizing o w with
  | nil => exact h
  | cons v r ih => exact ih (h.setCell hb _) (o + 1)
theorem load_struct {P : Program} {T : TypeId} {d : TypeDesc} (W : World) (B : Nat) (vs : List Value) (ht : W.there B 0 vs.length) (hi : (P.info? T).map (·.size) = some vs.length)
    (hu : P.underlying T = some d) (hd : d.isRow = true) : (loadVar T ⟨B, 0, none⟩).run P (W.setCells B 0 vs) = .ok (.agg vs.toArray) (W.setCells B 0 vs) :=
  run_loadVar_mid (P := P) (W.setCells B 0 vs) B 0 T vs d (World.rangeAt_setCells_same W B 0 vs ht) hu hd hi
theorem there_cell {w : World} {b n : Nat} (h : w.there b 0 n) (i : Nat) (hi : i < n) : (∃ v, w.cell? ⟨b, i, none⟩ = some v) ∧ w.frozen? ⟨b, i, none⟩ = false := by
  have := h i hi
  rw [Nat.zero_add] at this
  exact ⟨Option.isSome_iff_exists.1 this.1, this.2⟩
theorem results_cell1 {P : Program} {fn : Func} {t : Tmp} {T : TypeId} {a : Addr} {v : Value} {w : World} (h : fn.results = #[.cell t T]) (tmps : Array Value)
    (ha : tmps.getD t undef = .pointer (some a)) (hl : (loadVar T a).run P w = .ok v w) : (results fn tmps).run P w = .ok v w := by
  have ha' : tmps[t]?.getD undef = .pointer (some a) := by simpa using ha
  simp [results, h, ha', asAddr, hl]
theorem results_cell2 {P : Program} {fn : Func} {t u : Tmp} {T : TypeId} {a : Addr} {v : Value} {w : World} (h : fn.results = #[.cell t T, .tmp u]) (tmps : Array Value)
    (ha : tmps.getD t undef = .pointer (some a)) (hl : (loadVar T a).run P w = .ok v w) : (results fn tmps).run P w = .ok (.tuple #[v, tmps.getD u undef]) w := by
  have ha' : tmps[t]?.getD undef = .pointer (some a) := by simpa using ha
  simp [results, h, ha', asAddr, hl]
set_option maxRecDepth 100000 in
theorem LDigit_any (r : Int) (w : World) : Calls Try.prog 96 #[.int .i32 r] w fun e w' => e = .returned (.bool (isDig r)) ∧ w = w' := by
  have HD := Lib.hid (Digit_any r w)
  generalize (digitF r).1 = d1 at HD
  have HQ : Hid (isDig r = (digitF r).2) := rfl
  generalize (digitF r).2 = d2 at HD HQ
  go_enter Try.func96, Try.ntmps96
  go_wp2_with fail
  refine HD.out.mono ?_
  rintro e w' ⟨rfl, rfl⟩
  go_wp2
  go_ret
  exact ⟨ret_bool HQ.out.symm, rfl⟩
set_option maxRecDepth 100000 in
theorem LHex_any (r : Int) (w : World) : Calls Try.prog 97 #[.int .i32 r] w fun e w' => e = .returned (.bool (isHex r)) ∧ w = w' := by
  have HD := Lib.hid (Hex_any r w)
  generalize (hexF r).1 = d1 at HD
  have HQ : Hid (isHex r = (hexF r).2) := rfl
  generalize (hexF r).2 = d2 at HD HQ
  go_enter Try.func97, Try.ntmps97
  go_wp2_with fail
  refine HD.out.mono ?_
  rintro e w' ⟨rfl, rfl⟩
  go_wp2
  go_ret
  exact ⟨ret_bool HQ.out.symm, rfl⟩
theorem LDigit_ok (w : World) : PredOk Try.prog 96 #[] isDig w := fun W r _ => (LDigit_any r W).mono fun _ _ ⟨h1, h2⟩ => ⟨h1, h2 ▸ Below.refl _ _⟩
theorem LHex_ok (w : World) : PredOk Try.prog 97 #[] isHex w := fun W r _ => (LHex_any r W).mono fun _ _ ⟨h1, h2⟩ => ⟨h1, h2 ▸ Below.refl _ _⟩
theorem eg_LDigit : ∀ args w, (callFunc 96 args).run Try.prog w = .ok (.enter 96 args) w := enters_of Try.func96 (by kernel_rfl) rfl
theorem eg_LHex : ∀ args w, (callFunc 97 args).run Try.prog w = .ok (.enter 97 args) w := enters_of Try.func97 (by kernel_rfl) rfl
set_option maxHeartbeats 1000000 in
set_option maxRecDepth 100000 in
theorem Ended_any (S : Nat → Prop) (A : Option Addr) (n c : Nat) (l : List Int) (p m : Nat) (w : World) (hr : Rd w S 1 A n c (rc l)) (hp : p ≤ 2000000000) (hm : m ≤ 2000000000) :
    Calls Try.prog 98 #[.slice A n c, .int .i64 p, .int .i64 m] w fun e w' => e = .returned (.bool (endedF l p m)) ∧ w = w' := by
  obtain rfl := hr.rlen
  have hle := hr.le
  have hmx : c ≤ 9223372036854775807 := hr.max
  by_cases h0 : 0 < m
  · have h0i : (m : Int) > 0 := by omega
    by_cases hlt : p + m < l.length
    · have hlti : (p : Int) + (m : Int) < (l.length : Int) := by omega
      obtain ⟨b, o, rfl, hc0⟩ := hr.rune hlt
      have HE : Hid (endedF l p m = (l[p + m] == 59)) := by
        rw [Hid, endedF, decide_eq_true h0, List.getElem?_eq_getElem hlt, Bool.true_and]
        rfl
      clear hr
      generalize l[p + m] = r at hc0 HE
      generalize endedF l p m = q at HE ⊢
      go_enter Try.func98, Try.ntmps98
      go_wp2
      go_ret
      exact ⟨ret_bool HE.out.symm, rfl⟩
    · have hlti : ¬ (p : Int) + (m : Int) < (l.length : Int) := by omega
      have HE : Hid (endedF l p m = false) := by rw [Hid, endedF, decide_eq_true h0, List.getElem?_eq_none (by omega)]; rfl
      clear hr
      go_enter Try.func98, Try.ntmps98
      go_wp2
      go_ret
      exact ⟨ret_bool HE.out.symm, rfl⟩
  · have h0i : ¬ (m : Int) > 0 := by omega
    have HE : Hid (endedF l p m = false) := by rw [Hid, endedF, decide_eq_false h0]; rfl
    clear hr
    go_enter Try.func98, Try.ntmps98
    go_wp2
    go_ret
    exact ⟨ret_bool HE.out.symm, rfl⟩
def tokV (t : Nat × Nat × Bool) (k : Nat) : Value := .agg #[.int .i64 t.1, .int .i64 k, .int .i64 t.2.1, .bool t.2.2]
theorem runMin (p : Int → Bool) (l : List Int) (k j : Nat) : runF p l ((min (k + j) l.length : Nat) : Int) = ((l.drop (k + j)).takeWhile p).length := by
  rw [runF, if_neg (by omega), Int.toNat_natCast]
  by_cases h : k + j ≤ l.length
  · rw [Nat.min_eq_left h]
  · rw [Nat.min_eq_right (by omega), List.drop_eq_nil_of_le (Nat.le_refl _), List.drop_eq_nil_of_le (by omega)]
set_option maxHeartbeats 2000000 in
set_option maxRecDepth 100000 in
theorem Ref_any (S : Nat → Prop) (A : Option Addr) (n c : Nat) (l : List Int) (k : Nat) (w : World) (hr : Rd w S 1 A n c (rc l)) (hk : k < l.length) (hl9 : l.length ≤ 1000000000) :
    Calls Try.prog 80 #[.slice A n c, .int .i64 k] w fun e w' => e = .returned (tokV (refF l k) k) ∧ Below w.heap.size w w' := by
  obtain rfl := hr.rlen
  have hle := hr.le
  have hmx : c ≤ 9223372036854775807 := hr.max
  have HR := Lib.hid hr
  have HRN : ∀ W, Below w.heap.size w W → Hid (Calls Try.prog 81 #[.slice A l.length c, .int .i64 (min (k + 2) l.length : Nat), .func (.func 96) #[] #[]] W fun e w' => e = .returned (.int .i64 (digN l k)) ∧ Below W.heap.size W w') := fun W h => by
    have := Run_any S A l.length c l (min (k + 2) l.length : Nat) 96 #[] isDig W eg_LDigit (HR.out.below h) (LDigit_ok W)
    rwa [runMin] at this
  have HRX : ∀ W, Below w.heap.size w W → Hid (Calls Try.prog 81 #[.slice A l.length c, .int .i64 (min (k + 3) l.length : Nat), .func (.func 97) #[] #[]] W fun e w' => e = .returned (.int .i64 (hexN l k)) ∧ Below W.heap.size W w') := fun W h => by
    have := Run_any S A l.length c l (min (k + 3) l.length : Nat) 97 #[] isHex W eg_LHex (HR.out.below h) (LHex_ok W)
    rwa [runMin] at this
  have hm2 : ∀ ts t W, (Builtin.min_ ts t #[.int .i64 ((k : Int) + 2), .int .i64 (l.length : Int)]).run Try.prog W = .ok (.int .i64 (min (k + 2) l.length : Nat)) W := fun ts t W => by
    rw [run_min_int2]
    congr 2
    split <;> omega
  have hm3 : ∀ ts t W, (Builtin.min_ ts t #[.int .i64 ((k : Int) + 3), .int .i64 (l.length : Int)]).run Try.prog W = .ok (.int .i64 (min (k + 3) l.length : Nat)) W := fun ts t W => by
    rw [run_min_int2]
    congr 2
    split <;> omega
  have HS1 : ∀ W, Below w.heap.size w W → Hid (Calls Try.prog 88 #[.slice A l.length c, .int .i64 k, .string ⟨#[38, 35, 120]⟩] W fun e w' => e = .returned (.bool (startsF l k [38, 35, 120])) ∧ Below W.heap.size W w') :=
    fun W h => Starts_any S A l.length c l k ⟨#[38, 35, 120]⟩ W (HR.out.below h) (by omega) hl9 (by decide)
  have HS2 : ∀ W, Below w.heap.size w W → Hid (Calls Try.prog 88 #[.slice A l.length c, .int .i64 k, .string ⟨#[38, 35]⟩] W fun e w' => e = .returned (.bool (startsF l k [38, 35])) ∧ Below W.heap.size W w') :=
    fun W h => Starts_any S A l.length c l k ⟨#[38, 35]⟩ W (HR.out.below h) (by omega) hl9 (by decide)
  have hdn : digN l k ≤ 1000000000 := by have := (List.takeWhile_sublist isDig (l := l.drop (k + 2))).length_le; rw [List.length_drop] at this; unfold digN; omega
  have hxn : hexN l k ≤ 1000000000 := by have := (List.takeWhile_sublist isHex (l := l.drop (k + 3))).length_le; rw [List.length_drop] at this; unfold hexN; omega
  have hln : leadF l (k + 1) ≤ 1000000000 := by
    rw [lead_shift l k 1]
    unfold leadF
    split
    · omega
    · split
      · have := (List.takeWhile_sublist isNameChar (l := (l.drop k).drop 1)).length_le
        simp only [List.length_drop] at this; omega
      · omega
  have HLD : ∀ W, Below w.heap.size w W → Hid (Calls Try.prog 86 #[.slice A l.length c, .int .i64 ((k : Int) + 1)] W fun e w' => e = .returned (.int .i64 (leadF l (k + 1))) ∧ Below W.heap.size W w') := fun W h => by
    rw [show ((k : Int) + 1) = ((k + 1 : Nat) : Int) by omega]
    exact NLead_any S A l.length c l (k + 1) W (HR.out.below h) (by omega)
  have HE1 : ∀ W, Below w.heap.size w W → Hid (Calls Try.prog 98 #[.slice A l.length c, .int .i64 ((k : Int) + 3), .int .i64 (hexN l k)] W fun e w' => e = .returned (.bool (endedF l (k + 3) (hexN l k))) ∧ W = w') := fun W h => by
    rw [show ((k : Int) + 3) = ((k + 3 : Nat) : Int) by omega]
    exact Ended_any S A l.length c l (k + 3) (hexN l k) W (HR.out.below h) (by omega) (by omega)
  have HE2 : ∀ W, Below w.heap.size w W → Hid (Calls Try.prog 98 #[.slice A l.length c, .int .i64 ((k : Int) + 2), .int .i64 (digN l k)] W fun e w' => e = .returned (.bool (endedF l (k + 2) (digN l k))) ∧ W = w') := fun W h => by
    rw [show ((k : Int) + 2) = ((k + 2 : Nat) : Int) by omega]
    exact Ended_any S A l.length c l (k + 2) (digN l k) W (HR.out.below h) (by omega) (by omega)
  have HE3 : ∀ W, Below w.heap.size w W → Hid (Calls Try.prog 98 #[.slice A l.length c, .int .i64 ((k : Int) + 1), .int .i64 (leadF l (k + 1))] W fun e w' => e = .returned (.bool (endedF l (k + 1) (leadF l (k + 1)))) ∧ W = w') := fun W h => by
    rw [show ((k : Int) + 1) = ((k + 1 : Nat) : Int) by omega]
    exact Ended_any S A l.length c l (k + 1) (leadF l (k + 1)) W (HR.out.below h) (by omega) (by omega)
  have HREF : Hid (refF l k = if startsF l k [38, 35, 120] && endedF l (k + 3) (hexN l k) then (3, k + 4 + hexN l k, true)
    else if startsF l k [38, 35] && endedF l (k + 2) (digN l k) then (3, k + 3 + digN l k, true)
    else if endedF l (k + 1) (leadF l (k + 1)) then (2, k + 2 + leadF l (k + 1), true) else (11, k + 1, false)) := rfl
  generalize startsF l k [38, 35, 120] = s1 at HS1 HREF
  generalize startsF l k [38, 35] = s2 at HS2 HREF
  generalize endedF l (k + 3) (hexN l k) = e1 at HE1 HREF
  generalize endedF l (k + 2) (digN l k) = e2 at HE2 HREF
  generalize endedF l (k + 1) (leadF l (k + 1)) = e3 at HE3 HREF
  generalize hexN l k = x at HRX HE1 HREF hxn
  generalize digN l k = nd at HRN HE2 HREF hdn
  generalize leadF l (k + 1) = d at HLD HE3 HREF hln
  generalize min (k + 2) l.length = m2 at HRN hm2
  generalize min (k + 3) l.length = m3 at HRX hm3
  clear hr
  go_enter Try.func80, Try.ntmps80
  go_wp2_with fail
  have HTH0 := Lib.hid (there_lit w #[.int .i64 0, .int .i64 0, .int .i64 0, .bool false] 109)
  have HB0 := Lib.hid (ba w (.cells #[.int .i64 0, .int .i64 0, .int .i64 0, .bool false] 109))
  have HSZ : Hid (w.heap.size + 1 ≤ (w.alloc (.cells #[.int .i64 0, .int .i64 0, .int .i64 0, .bool false] 109)).heap.size) := by simp [Hid]
  generalize w.alloc (.cells #[.int .i64 0, .int .i64 0, .int .i64 0, .bool false] 109) = W0 at HTH0 HB0 HSZ
  refine (HRN _ HB0.out).out.mono ?_
  rintro e w1 ⟨rfl, hb1⟩
  have HB1 := Lib.hid (HB0.out.trans (hb1.mono HB0.out.size))
  have HTH1 := Lib.hid (there_below HTH0.out hb1 (by have := HSZ.out; omega))
  have HLT : Hid (w.heap.size < w1.heap.size) := by have := HSZ.out; have := hb1.size; show _ < _; omega
  clear hb1
  go_wp2_with fail
  refine (HRX _ HB1.out).out.mono ?_
  rintro e w2 ⟨rfl, hb2⟩
  have HB2 := Lib.hid (HB1.out.trans (hb2.mono HB1.out.size))
  have HTH2 := Lib.hid (there_below HTH1.out hb2 HLT.out)
  have HLT := Lib.hid (Nat.lt_of_lt_of_le HLT.out hb2.size)
  clear hb2
  go_wp2_with fail
  refine (HLD _ HB2.out).out.mono ?_
  rintro e w3 ⟨rfl, hb3⟩
  have HB3 := Lib.hid (HB2.out.trans (hb3.mono HB2.out.size))
  have HTH3 := Lib.hid (there_below HTH2.out hb3 HLT.out)
  have HLT := Lib.hid (Nat.lt_of_lt_of_le HLT.out hb3.size)
  clear hb3
  go_wp2_with fail
  refine (HS1 _ HB3.out).out.mono ?_
  rintro e w4 ⟨rfl, hb4⟩
  have HB4 := Lib.hid (HB3.out.trans (hb4.mono HB3.out.size))
  have HTH4 := Lib.hid (there_below HTH3.out hb4 HLT.out)
  have HLT := Lib.hid (Nat.lt_of_lt_of_le HLT.out hb4.size)
  clear hb4 HB0 HB1 HB2 HB3 HTH0 HTH1 HTH2 HTH3 HRN HRX HLD HS1
  cases s1 with
  | true =>
    go_wp2_with fail
    refine (HE1 _ HB4.out).out.mono ?_
    rintro e wx ⟨rfl, rfl⟩
    cases e1 with
    | true =>
      have HV : Hid (tokV (refF l k) k = .agg #[.int .i64 3, .int .i64 k, .int .i64 ((k : Int) + 4 + (x : Int)), .bool true]) := by rw [Hid, HREF.out]; simp [tokV]
      have HL9 := Lib.hid (load_struct (P := Try.prog) (T := 109) w4 w.heap.size [.int .i64 3, .int .i64 k, .int .i64 ((k : Int) + 4 + (x : Int)), .bool true] HTH4.out (by kernel_rfl) Try.underlying109 rfl)
      have HB9 := Lib.hid (below_setCells2 HB4.out w.heap.size (Nat.le_refl _) [.int .i64 3, .int .i64 k, .int .i64 ((k : Int) + 4 + (x : Int)), .bool true] 0)
      obtain ⟨⟨z0, hz0⟩, hf0⟩ := there_cell HTH4.out 0 (by decide)
      obtain ⟨⟨z1, hz1⟩, hf1⟩ := there_cell HTH4.out 1 (by decide)
      obtain ⟨⟨z2, hz2⟩, hf2⟩ := there_cell HTH4.out 2 (by decide)
      obtain ⟨⟨z3, hz3⟩, hf3⟩ := there_cell HTH4.out 3 (by decide)
      go_wp2
      refine bodyPost_ret (results_cell1 rfl _ rfl HL9.out) rfl ?_
      rw [HV.out]
      exact ⟨rfl, HB9.out⟩
    | false =>
      go_wp2_with fail
      refine (HS2 _ HB4.out).out.mono ?_
      rintro e w5 ⟨rfl, hb5⟩
      have HB5 := Lib.hid (HB4.out.trans (hb5.mono HB4.out.size))
      have HTH5 := Lib.hid (there_below HTH4.out hb5 HLT.out)
      clear hb5
      cases s2 with
      | true =>
        go_wp2_with fail
        refine (HE2 _ HB5.out).out.mono ?_
        rintro e wx ⟨rfl, rfl⟩
        cases e2 with
        | true =>
          have HV : Hid (tokV (refF l k) k = .agg #[.int .i64 3, .int .i64 k, .int .i64 ((k : Int) + 3 + (nd : Int)), .bool true]) := by rw [Hid, HREF.out]; simp [tokV]
          have HL9 := Lib.hid (load_struct (P := Try.prog) (T := 109) w5 w.heap.size [.int .i64 3, .int .i64 k, .int .i64 ((k : Int) + 3 + (nd : Int)), .bool true] HTH5.out (by kernel_rfl) Try.underlying109 rfl)
          have HB9 := Lib.hid (below_setCells2 HB5.out w.heap.size (Nat.le_refl _) [.int .i64 3, .int .i64 k, .int .i64 ((k : Int) + 3 + (nd : Int)), .bool true] 0)
          obtain ⟨⟨z0, hz0⟩, hf0⟩ := there_cell HTH5.out 0 (by decide)
          obtain ⟨⟨z1, hz1⟩, hf1⟩ := there_cell HTH5.out 1 (by decide)
          obtain ⟨⟨z2, hz2⟩, hf2⟩ := there_cell HTH5.out 2 (by decide)
          obtain ⟨⟨z3, hz3⟩, hf3⟩ := there_cell HTH5.out 3 (by decide)
          go_wp2
          refine bodyPost_ret (results_cell1 rfl _ rfl HL9.out) rfl ?_
          rw [HV.out]
          exact ⟨rfl, HB9.out⟩
        | false =>
          go_wp2_with fail
          refine (HE3 _ HB5.out).out.mono ?_
          rintro e wx ⟨rfl, rfl⟩
          cases e3 with
          | true =>
            have HV : Hid (tokV (refF l k) k = .agg #[.int .i64 2, .int .i64 k, .int .i64 ((k : Int) + 2 + (d : Int)), .bool true]) := by rw [Hid, HREF.out]; simp [tokV]
            have HL9 := Lib.hid (load_struct (P := Try.prog) (T := 109) w5 w.heap.size [.int .i64 2, .int .i64 k, .int .i64 ((k : Int) + 2 + (d : Int)), .bool true] HTH5.out (by kernel_rfl) Try.underlying109 rfl)
            have HB9 := Lib.hid (below_setCells2 HB5.out w.heap.size (Nat.le_refl _) [.int .i64 2, .int .i64 k, .int .i64 ((k : Int) + 2 + (d : Int)), .bool true] 0)
            obtain ⟨⟨z0, hz0⟩, hf0⟩ := there_cell HTH5.out 0 (by decide)
            obtain ⟨⟨z1, hz1⟩, hf1⟩ := there_cell HTH5.out 1 (by decide)
            obtain ⟨⟨z2, hz2⟩, hf2⟩ := there_cell HTH5.out 2 (by decide)
            obtain ⟨⟨z3, hz3⟩, hf3⟩ := there_cell HTH5.out 3 (by decide)
            go_wp2
            refine bodyPost_ret (results_cell1 rfl _ rfl HL9.out) rfl ?_
            rw [HV.out]
            exact ⟨rfl, HB9.out⟩
          | false =>
            have HV : Hid (tokV (refF l k) k = .agg #[.int .i64 11, .int .i64 k, .int .i64 ((k : Int) + 1), .bool false]) := by rw [Hid, HREF.out]; simp [tokV]
            have HL9 := Lib.hid (load_struct (P := Try.prog) (T := 109) w5 w.heap.size [.int .i64 11, .int .i64 k, .int .i64 ((k : Int) + 1), .bool false] HTH5.out (by kernel_rfl) Try.underlying109 rfl)
            have HB9 := Lib.hid (below_setCells2 HB5.out w.heap.size (Nat.le_refl _) [.int .i64 11, .int .i64 k, .int .i64 ((k : Int) + 1), .bool false] 0)
            obtain ⟨⟨z0, hz0⟩, hf0⟩ := there_cell HTH5.out 0 (by decide)
            obtain ⟨⟨z1, hz1⟩, hf1⟩ := there_cell HTH5.out 1 (by decide)
            obtain ⟨⟨z2, hz2⟩, hf2⟩ := there_cell HTH5.out 2 (by decide)
            obtain ⟨⟨z3, hz3⟩, hf3⟩ := there_cell HTH5.out 3 (by decide)
            go_wp2
            refine bodyPost_ret (results_cell1 rfl _ rfl HL9.out) rfl ?_
            rw [HV.out]
            exact ⟨rfl, HB9.out⟩
      | false =>
        go_wp2_with fail
        refine (HE3 _ HB5.out).out.mono ?_
        rintro e wx ⟨rfl, rfl⟩
        cases e3 with
        | true =>
          have HV : Hid (tokV (refF l k) k = .agg #[.int .i64 2, .int .i64 k, .int .i64 ((k : Int) + 2 + (d : Int)), .bool true]) := by rw [Hid, HREF.out]; simp [tokV]
          have HL9 := Lib.hid (load_struct (P := Try.prog) (T := 109) w5 w.heap.size [.int .i64 2, .int .i64 k, .int .i64 ((k : Int) + 2 + (d : Int)), .bool true] HTH5.out (by kernel_rfl) Try.underlying109 rfl)
          have HB9 := Lib.hid (below_setCells2 HB5.out w.heap.size (Nat.le_refl _) [.int .i64 2, .int .i64 k, .int .i64 ((k : Int) + 2 + (d : Int)), .bool true] 0)
          obtain ⟨⟨z0, hz0⟩, hf0⟩ := there_cell HTH5.out 0 (by decide)
          obtain ⟨⟨z1, hz1⟩, hf1⟩ := there_cell HTH5.out 1 (by decide)
          obtain ⟨⟨z2, hz2⟩, hf2⟩ := there_cell HTH5.out 2 (by decide)
          obtain ⟨⟨z3, hz3⟩, hf3⟩ := there_cell HTH5.out 3 (by decide)
          go_wp2
          refine bodyPost_ret (results_cell1 rfl _ rfl HL9.out) rfl ?_
          rw [HV.out]
          exact ⟨rfl, HB9.out⟩
        | false =>
          have HV : Hid (tokV (refF l k) k = .agg #[.int .i64 11, .int .i64 k, .int .i64 ((k : Int) + 1), .bool false]) := by rw [Hid, HREF.out]; simp [tokV]
          have HL9 := Lib.hid (load_struct (P := Try.prog) (T := 109) w5 w.heap.size [.int .i64 11, .int .i64 k, .int .i64 ((k : Int) + 1), .bool false] HTH5.out (by kernel_rfl) Try.underlying109 rfl)
          have HB9 := Lib.hid (below_setCells2 HB5.out w.heap.size (Nat.le_refl _) [.int .i64 11, .int .i64 k, .int .i64 ((k : Int) + 1), .bool false] 0)
          obtain ⟨⟨z0, hz0⟩, hf0⟩ := there_cell HTH5.out 0 (by decide)
          obtain ⟨⟨z1, hz1⟩, hf1⟩ := there_cell HTH5.out 1 (by decide)
          obtain ⟨⟨z2, hz2⟩, hf2⟩ := there_cell HTH5.out 2 (by decide)
          obtain ⟨⟨z3, hz3⟩, hf3⟩ := there_cell HTH5.out 3 (by decide)
          go_wp2
          refine bodyPost_ret (results_cell1 rfl _ rfl HL9.out) rfl ?_
          rw [HV.out]
          exact ⟨rfl, HB9.out⟩
  | false =>
    go_wp2_with fail
    refine (HS2 _ HB4.out).out.mono ?_
    rintro e w5 ⟨rfl, hb5⟩
    have HB5 := Lib.hid (HB4.out.trans (hb5.mono HB4.out.size))
    have HTH5 := Lib.hid (there_below HTH4.out hb5 HLT.out)
    clear hb5
    cases s2 with
    | true =>
      go_wp2_with fail
      refine (HE2 _ HB5.out).out.mono ?_
      rintro e wx ⟨rfl, rfl⟩
      cases e2 with
      | true =>
        have HV : Hid (tokV (refF l k) k = .agg #[.int .i64 3, .int .i64 k, .int .i64 ((k : Int) + 3 + (nd : Int)), .bool true]) := by rw [Hid, HREF.out]; simp [tokV]
        have HL9 := Lib.hid (load_struct (P := Try.prog) (T := 109) w5 w.heap.size [.int .i64 3, .int .i64 k, .int .i64 ((k : Int) + 3 + (nd : Int)), .bool true] HTH5.out (by kernel_rfl) Try.underlying109 rfl)
        have HB9 := Lib.hid (below_setCells2 HB5.out w.heap.size (Nat.le_refl _) [.int .i64 3, .int .i64 k, .int .i64 ((k : Int) + 3 + (nd : Int)), .bool true] 0)
        obtain ⟨⟨z0, hz0⟩, hf0⟩ := there_cell HTH5.out 0 (by decide)
        obtain ⟨⟨z1, hz1⟩, hf1⟩ := there_cell HTH5.out 1 (by decide)
        obtain ⟨⟨z2, hz2⟩, hf2⟩ := there_cell HTH5.out 2 (by decide)
        obtain ⟨⟨z3, hz3⟩, hf3⟩ := there_cell HTH5.out 3 (by decide)
        go_wp2
        refine bodyPost_ret (results_cell1 rfl _ rfl HL9.out) rfl ?_
        rw [HV.out]
        exact ⟨rfl, HB9.out⟩
      | false =>
        go_wp2_with fail
        refine (HE3 _ HB5.out).out.mono ?_
        rintro e wx ⟨rfl, rfl⟩
        cases e3 with
        | true =>
          have HV : Hid (tokV (refF l k) k = .agg #[.int .i64 2, .int .i64 k, .int .i64 ((k : Int) + 2 + (d : Int)), .bool true]) := by rw [Hid, HREF.out]; simp [tokV]
          have HL9 := Lib.hid (load_struct (P := Try.prog) (T := 109) w5 w.heap.size [.int .i64 2, .int .i64 k, .int .i64 ((k : Int) + 2 + (d : Int)), .bool true] HTH5.out (by kernel_rfl) Try.underlying109 rfl)
          have HB9 := Lib.hid (below_setCells2 HB5.out w.heap.size (Nat.le_refl _) [.int .i64 2, .int .i64 k, .int .i64 ((k : Int) + 2 + (d : Int)), .bool true] 0)
          obtain ⟨⟨z0, hz0⟩, hf0⟩ := there_cell HTH5.out 0 (by decide)
          obtain ⟨⟨z1, hz1⟩, hf1⟩ := there_cell HTH5.out 1 (by decide)
          obtain ⟨⟨z2, hz2⟩, hf2⟩ := there_cell HTH5.out 2 (by decide)
          obtain ⟨⟨z3, hz3⟩, hf3⟩ := there_cell HTH5.out 3 (by decide)
          go_wp2
          refine bodyPost_ret (results_cell1 rfl _ rfl HL9.out) rfl ?_
          rw [HV.out]
          exact ⟨rfl, HB9.out⟩
        | false =>
          have HV : Hid (tokV (refF l k) k = .agg #[.int .i64 11, .int .i64 k, .int .i64 ((k : Int) + 1), .bool false]) := by rw [Hid, HREF.out]; simp [tokV]
          have HL9 := Lib.hid (load_struct (P := Try.prog) (T := 109) w5 w.heap.size [.int .i64 11, .int .i64 k, .int .i64 ((k : Int) + 1), .bool false] HTH5.out (by kernel_rfl) Try.underlying109 rfl)
          have HB9 := Lib.hid (below_setCells2 HB5.out w.heap.size (Nat.le_refl _) [.int .i64 11, .int .i64 k, .int .i64 ((k : Int) + 1), .bool false] 0)
          obtain ⟨⟨z0, hz0⟩, hf0⟩ := there_cell HTH5.out 0 (by decide)
          obtain ⟨⟨z1, hz1⟩, hf1⟩ := there_cell HTH5.out 1 (by decide)
          obtain ⟨⟨z2, hz2⟩, hf2⟩ := there_cell HTH5.out 2 (by decide)
          obtain ⟨⟨z3, hz3⟩, hf3⟩ := there_cell HTH5.out 3 (by decide)
          go_wp2
          refine bodyPost_ret (results_cell1 rfl _ rfl HL9.out) rfl ?_
          rw [HV.out]
          exact ⟨rfl, HB9.out⟩
    | false =>
      go_wp2_with fail
      refine (HE3 _ HB5.out).out.mono ?_
      rintro e wx ⟨rfl, rfl⟩
      cases e3 with
      | true =>
        have HV : Hid (tokV (refF l k) k = .agg #[.int .i64 2, .int .i64 k, .int .i64 ((k : Int) + 2 + (d : Int)), .bool true]) := by rw [Hid, HREF.out]; simp [tokV]
        have HL9 := Lib.hid (load_struct (P := Try.prog) (T := 109) w5 w.heap.size [.int .i64 2, .int .i64 k, .int .i64 ((k : Int) + 2 + (d : Int)), .bool true] HTH5.out (by kernel_rfl) Try.underlying109 rfl)
        have HB9 := Lib.hid (below_setCells2 HB5.out w.heap.size (Nat.le_refl _) [.int .i64 2, .int .i64 k, .int .i64 ((k : Int) + 2 + (d : Int)), .bool true] 0)
        obtain ⟨⟨z0, hz0⟩, hf0⟩ := there_cell HTH5.out 0 (by decide)
        obtain ⟨⟨z1, hz1⟩, hf1⟩ := there_cell HTH5.out 1 (by decide)
        obtain ⟨⟨z2, hz2⟩, hf2⟩ := there_cell HTH5.out 2 (by decide)
        obtain ⟨⟨z3, hz3⟩, hf3⟩ := there_cell HTH5.out 3 (by decide)
        go_wp2
        refine bodyPost_ret (results_cell1 rfl _ rfl HL9.out) rfl ?_
        rw [HV.out]
        exact ⟨rfl, HB9.out⟩
      | false =>
        have HV : Hid (tokV (refF l k) k = .agg #[.int .i64 11, .int .i64 k, .int .i64 ((k : Int) + 1), .bool false]) := by rw [Hid, HREF.out]; simp [tokV]
        have HL9 := Lib.hid (load_struct (P := Try.prog) (T := 109) w5 w.heap.size [.int .i64 11, .int .i64 k, .int .i64 ((k : Int) + 1), .bool false] HTH5.out (by kernel_rfl) Try.underlying109 rfl)
        have HB9 := Lib.hid (below_setCells2 HB5.out w.heap.size (Nat.le_refl _) [.int .i64 11, .int .i64 k, .int .i64 ((k : Int) + 1), .bool false] 0)
        obtain ⟨⟨z0, hz0⟩, hf0⟩ := there_cell HTH5.out 0 (by decide)
        obtain ⟨⟨z1, hz1⟩, hf1⟩ := there_cell HTH5.out 1 (by decide)
        obtain ⟨⟨z2, hz2⟩, hf2⟩ := there_cell HTH5.out 2 (by decide)
        obtain ⟨⟨z3, hz3⟩, hf3⟩ := there_cell HTH5.out 3 (by decide)
        go_wp2
        refine bodyPost_ret (results_cell1 rfl _ rfl HL9.out) rfl ?_
        rw [HV.out]
        exact ⟨rfl, HB9.out⟩
end Go.Proofs.Ytblafdmmebiagaa
namespace Go.Proofs.Ytblafdmmebiagaa
open Go.RowKit Go.Lib
def isQuo (r : Int) : Bool := r == 34 || r == 39
def quoF (l : List Int) (q : Int) (k : Nat) : Nat × Bool := if h : k < l.length then (if l[k] = q then (k + 1, true) else quoF l q (k + 1)) else (l.length, false)
termination_by l.length - k
theorem quoF_hit (l : List Int) (q : Int) (k : Nat) (h : k < l.length) (hq : l[k] = q) : quoF l q k = (k + 1, true) := by rw [quoF, dif_pos h, if_pos hq]
theorem quoF_miss (l : List Int) (q : Int) (k : Nat) (h : k < l.length) (hq : l[k] ≠ q) : quoF l q k = quoF l q (k + 1) := by rw [quoF, dif_pos h, if_neg hq]
theorem quoF_end (l : List Int) (q : Int) (k : Nat) (h : ¬ k < l.length) : quoF l q k = (l.length, false) := by rw [quoF, dif_neg h]
theorem quoF_range (l : List Int) (q : Int) : ∀ (n k : Nat), l.length - k ≤ n → k ≤ l.length → k ≤ (quoF l q k).1 ∧ (quoF l q k).1 ≤ l.length ∧ (k < l.length → k < (quoF l q k).1 ∨ (quoF l q k).1 = l.length) := by
  intro n
  induction n with
  | zero =>
    intro k h hk
    rw [quoF_end l q k (by omega)]
    simp only; omega
  | succ n ih =>
    intro k h hk
    by_cases hlt : k < l.length
    · by_cases hq : l[k] = q
      · rw [quoF_hit l q k hlt hq]; simp only; omega
      · rw [quoF_miss l q k hlt hq]
        have := ih (k + 1) (by omega) (by omega)
        omega
    · rw [quoF_end l q k hlt]; simp only; omega
def quotedF (l : List Int) (k : Nat) : Nat × Bool := quoF l (l.getD k 0) (k + 1)
theorem quotedF_gt (l : List Int) (k : Nat) (h : k < l.length) : k < (quotedF l k).1 ∧ (quotedF l k).1 ≤ l.length := by
  have := quoF_range l (l.getD k 0) l.length (k + 1) (by omega) (by omega)
  unfold quotedF; omega
def angleF (l : List Int) (stops : Bool) (k : Nat) : Nat × Bool :=
  if h : k < l.length then
    (if isQuo l[k] then angleF l stops (quotedF l k).1 else if l[k] = 62 then (k, true) else if l[k] = 60 ∧ stops = true then (k, false) else angleF l stops (k + 1))
  else (l.length, false)
termination_by l.length - k
decreasing_by
  · have := quotedF_gt l k (by assumption); omega
  · omega
theorem angleF_end (l : List Int) (s : Bool) (k : Nat) (h : ¬ k < l.length) : angleF l s k = (l.length, false) := by rw [angleF, dif_neg h]
theorem angleF_quo (l : List Int) (s : Bool) (k : Nat) (h : k < l.length) (hq : isQuo l[k] = true) : angleF l s k = angleF l s (quotedF l k).1 := by
  conv => lhs; rw [angleF]
  rw [dif_pos h, if_pos hq]
theorem angleF_gt (l : List Int) (s : Bool) (k : Nat) (h : k < l.length) (hq : l[k] = 62) : angleF l s k = (k, true) := by
  rw [angleF, dif_pos h, if_neg (by rw [hq]; decide), if_pos hq]
theorem angleF_lt (l : List Int) (k : Nat) (h : k < l.length) (hq : l[k] = 60) : angleF l true k = (k, false) := by
  rw [angleF, dif_pos h, if_neg (by rw [hq]; decide), if_neg (by rw [hq]; decide), if_pos ⟨hq, rfl⟩]
theorem angleF_next (l : List Int) (s : Bool) (k : Nat) (h : k < l.length) (h1 : isQuo l[k] = false) (h2 : l[k] ≠ 62) (h3 : ¬ (l[k] = 60 ∧ s = true)) : angleF l s k = angleF l s (k + 1) := by
  conv => lhs; rw [angleF]
  rw [dif_pos h, if_neg (by simp [h1]), if_neg h2, if_neg h3]
theorem angleF_range (l : List Int) (s : Bool) : ∀ (n k : Nat), l.length - k ≤ n → k ≤ l.length → k ≤ (angleF l s k).1 ∧ (angleF l s k).1 ≤ l.length ∧ ((angleF l s k).2 = true → (angleF l s k).1 < l.length) := by
  intro n
  induction n with
  | zero =>
    intro k h hk
    rw [angleF_end l s k (by omega)]
    simp; omega
  | succ n ih =>
    intro k h hk
    by_cases hlt : k < l.length
    · cases hq : isQuo l[k] with
      | true =>
        have := quotedF_gt l k hlt
        have := ih (quotedF l k).1 (by omega) (by omega)
        rw [angleF_quo l s k hlt hq]; exact ⟨by omega, by omega, this.2.2⟩
      | false =>
        by_cases h2 : l[k] = 62
        · rw [angleF_gt l s k hlt h2]; simp; omega
        · by_cases h3 : l[k] = 60 ∧ s = true
          · obtain ⟨h3, rfl⟩ := h3
            rw [angleF_lt l k hlt h3]; simp; omega
          · have := ih (k + 1) (by omega) (by omega)
            rw [angleF_next l s k hlt hq h2 h3]; exact ⟨by omega, by omega, this.2.2⟩
    · rw [angleF_end l s k hlt]
      simp; omega
set_option maxHeartbeats 400000 in
set_option maxRecDepth 100000 in
theorem LQuote_any (r : Int) (w : World) : Calls Try.prog 103 #[.int .i32 r] w fun e w' => e = .returned (.bool (isQuo r)) ∧ w = w' := by
  by_cases h : r = 34
  · subst h
    go_enter Try.func103, Try.ntmps103
    go_wp2
    go_ret
    exact ⟨rfl, rfl⟩
  · have hb : (r == 34) = false := by simpa using h
    have HE : Hid (isQuo r = (r == 39)) := by rw [Hid, isQuo, hb, Bool.false_or]
    clear h
    go_enter Try.func103, Try.ntmps103
    go_wp2
    go_ret
    exact ⟨ret_bool HE.out.symm, rfl⟩
set_option maxHeartbeats 1000000 in
set_option maxRecDepth 100000 in
theorem Quoted_any (S : Nat → Prop) (A : Option Addr) (n c : Nat) (l : List Int) (k : Nat) (w : World) (hr : Rd w S 1 A n c (rc l)) (hk : k < l.length) (hl9 : l.length ≤ 1000000000) :
    Calls Try.prog 104 #[.slice A n c, .int .i64 k] w fun e w' => e = .returned (.tuple #[.int .i64 (quotedF l k).1, .bool (quotedF l k).2]) ∧ Below w.heap.size w w' := by
  obtain rfl := hr.rlen
  have hle := hr.le
  have hmx : c ≤ 9223372036854775807 := hr.max
  have HR := Lib.hid hr
  have hki : (k : Int) < (l.length : Int) := by omega
  have HT : Hid (quotedF l k = quoF l l[k] (k + 1)) := by rw [Hid, quotedF, getD_at hk]
  have HQ := fun W (h : Below w.heap.size w W) => Lib.hid ((HR.out.below h).rune hk)
  clear hr
  generalize quotedF l k = t at HT ⊢
  generalize l[k] = q at HT HQ
  go_enter Try.func104, Try.ntmps104
  go_wp2
  go_loopw [6] (fun i wr => ∃ j : Nat, k + 1 ≤ j ∧ j ≤ l.length ∧ i = .int .i64 j ∧ Hid (t = quoF l q j) ∧ Hid (Below w.heap.size w wr)) (fun i _ => l.length - (intOf i).toNat)
  case atStart => exact ⟨k + 1, Nat.le_refl _, by omega, by go_num, HT.out, Below.refl _ _⟩
  case round =>
    obtain ⟨j, hj1, hj2, rfl, HJ, HB⟩ := hrel
    by_cases hlt : j < l.length
    · have hji : (j : Int) < (l.length : Int) := by omega
      obtain ⟨b, o, rfl, hc0⟩ := (HR.out.below HB.out).rune hlt
      obtain ⟨b', o', hA, hc1⟩ := (HQ _ HB.out).out
      injection hA with hA
      injection hA with e1 e2
      subst e1 e2
      have HH := Lib.hid (quoF_hit l q j hlt)
      have HM := Lib.hid (quoF_miss l q j hlt)
      generalize l[j] = r at hc0 HH HM
      by_cases hq : r = q
      · have HE := Lib.hid (HJ.out.trans (HH.out hq))
        have hb : (r == q) = true := by simpa using hq
        clear HH HM HJ hq
        go_wp2
        go_quiet (fail)
        go_wp2
        go_ret2
        rw [HE.out]
        exact ⟨rfl, below_drewN HB.out _⟩
      · have HE := Lib.hid (HJ.out.trans (HM.out hq))
        have hb : (r == q) = false := by simpa using hq
        clear HH HM HJ hq
        go_wp2
        go_quiet (fail)
        go_wp2
        go_roundw
        case rel => exact ⟨j + 1, by omega, by omega, by go_num, HE.out, below_drewN HB.out _⟩
        case measure => simp [intOf]; omega
    · have hji : ¬ (j : Int) < (l.length : Int) := by omega
      have HE := Lib.hid (HJ.out.trans (quoF_end l q j hlt))
      clear HJ
      go_wp2
      go_ret2
      rw [HE.out]
      exact ⟨rfl, HB.out⟩
set_option maxHeartbeats 2000000 in
set_option maxRecDepth 100000 in
theorem Angle_any (S : Nat → Prop) (A : Option Addr) (n c : Nat) (l : List Int) (k : Nat) (s : Bool) (w : World) (hr : Rd w S 1 A n c (rc l)) (hk : k ≤ l.length) (hl9 : l.length ≤ 1000000000) :
    Calls Try.prog 106 #[.slice A n c, .int .i64 k, .bool s] w fun e w' => e = .returned (.tuple #[.int .i64 (angleF l s k).1, .bool (angleF l s k).2]) ∧ Below w.heap.size w w' := by
  obtain rfl := hr.rlen
  have hle := hr.le
  have hmx : c ≤ 9223372036854775807 := hr.max
  have HR := Lib.hid hr
  clear hr
  obtain ⟨t, ht⟩ : ∃ t, t = angleF l s k := ⟨_, rfl⟩
  rw [← ht]
  have HT := Lib.hid ht
  clear ht
  go_enter Try.func106, Try.ntmps106
  go_wp2
  go_loopw [1] (fun i wr => ∃ j : Nat, j ≤ l.length ∧ i = .int .i64 j ∧ Hid (t = angleF l s j) ∧ Hid (Below w.heap.size w wr)) (fun i _ => l.length - (intOf i).toNat)
  case atStart => exact ⟨k, hk, rfl, HT.out, Below.refl _ _⟩
  case round =>
    obtain ⟨j, hj, rfl, HJ, HB⟩ := hrel
    by_cases hlt : j < l.length
    · have hji : (j : Int) < (l.length : Int) := by omega
      obtain ⟨b, o, rfl, hc0⟩ := (HR.out.below HB.out).rune hlt
      have HQT := Lib.hid (LQuote_any l[j])
      have HQD := Lib.hid (Quoted_any S _ l.length c l j _ (HR.out.below HB.out) hlt hl9)
      obtain ⟨hg1, hg2⟩ := quotedF_gt l j hlt
      have H1 := Lib.hid (angleF_quo l s j hlt)
      have H2 := Lib.hid (angleF_gt l s j hlt)
      have H4 := Lib.hid (angleF_next l s j hlt)
      have H3 := Lib.hid (show s = true → l[j] = 60 → angleF l s j = (j, false) from fun h h2 => by subst h; exact angleF_lt l j hlt h2)
      generalize l[j] = r at hc0 HQT H1 H2 H3 H4
      cases hq : isQuo r with
      | true =>
        have HE := Lib.hid (HJ.out.trans (H1.out hq))
        have HQT2 := fun W => Lib.hid (HQT.out W)
        rw [hq] at HQT2
        clear H1 H2 H3 H4 HJ hq HQT
        generalize (quotedF l j).1 = nx at HE HQD hg1 hg2
        generalize (quotedF l j).2 = nb at HQD
        go_wp2_with fail
        refine (HQT2 _).out.mono ?_
        rintro e wx ⟨rfl, rfl⟩
        go_wp2_with fail
        refine HQD.out.mono ?_
        rintro e w2 ⟨rfl, hb2⟩
        have HB2 := Lib.hid (HB.out.trans (hb2.mono HB.out.size))
        clear hb2
        go_wp2
        go_roundw
        case rel => exact ⟨nx, by omega, rfl, HE.out, HB2.out⟩
        case measure => simp [intOf]; omega
      | false =>
        have HQT2 := fun W => Lib.hid (HQT.out W)
        rw [hq] at HQT2
        clear HQD hg1 hg2 HQT
        by_cases h62 : r = 62
        · have HE := Lib.hid (HJ.out.trans (H2.out h62))
          subst h62
          clear H1 H2 H3 H4 HJ hq
          go_wp2_with fail
          refine (HQT2 _).out.mono ?_
          rintro e wx ⟨rfl, rfl⟩
          go_wp2
          go_ret2
          rw [HE.out]
          exact ⟨rfl, HB.out⟩
        · have h62b : (r == 62) = false := by simpa using h62
          by_cases h60 : r = 60
          · subst h60
            cases s with
            | true =>
              have HE := Lib.hid (HJ.out.trans (H3.out rfl rfl))
              clear H1 H2 H3 H4 HJ hq h62
              go_wp2_with fail
              refine (HQT2 _).out.mono ?_
              rintro e wx ⟨rfl, rfl⟩
              go_wp2
              go_ret2
              rw [HE.out]
              exact ⟨rfl, HB.out⟩
            | false =>
              have HE := Lib.hid (HJ.out.trans (H4.out hq h62 (by simp)))
              clear H1 H2 H3 H4 HJ hq h62
              go_wp2_with fail
              refine (HQT2 _).out.mono ?_
              rintro e wx ⟨rfl, rfl⟩
              go_wp2
              go_roundw
              case rel => exact ⟨j + 1, by omega, by go_num, HE.out, HB.out⟩
              case measure => simp [intOf]; omega
          · have h60b : (r == 60) = false := by simpa using h60
            have HE := Lib.hid (HJ.out.trans (H4.out hq h62 (fun h => h60 h.1)))
            clear H1 H2 H3 H4 HJ hq h62 h60
            go_wp2_with fail
            refine (HQT2 _).out.mono ?_
            rintro e wx ⟨rfl, rfl⟩
            go_wp2
            go_roundw
            case rel => exact ⟨j + 1, by omega, by go_num, HE.out, HB.out⟩
            case measure => simp [intOf]; omega
    · have hji : ¬ (j : Int) < (l.length : Int) := by omega
      have HE := Lib.hid (HJ.out.trans (angleF_end l s j hlt))
      clear HJ
      go_wp2
      go_ret2
      rw [HE.out]
      exact ⟨rfl, HB.out⟩
end Go.Proofs.Ytblafdmmebiagaa
