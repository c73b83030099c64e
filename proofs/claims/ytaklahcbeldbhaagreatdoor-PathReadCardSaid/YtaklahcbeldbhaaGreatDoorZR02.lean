/- Lemmas, conditions told -/
import Derived.Test.YtaklahcbeldbhaaGreatDoorZR01
import Derived.Deep.MidRow
set_option linter.unusedSimpArgs false
set_option linter.unusedVariables false
namespace Go.Proofs.YtaklahcbeldbhaaGreatDoor
open Go.RowKit Go.Lib
def isDig (r : Int) : Bool := (digitF r).2
def isHex (r : Int) : Bool := (hexF r).2
def endedF (l : List Int) (p n : Nat) : Bool := decide (0 < n) && (l[p + n]? == some 59)
def digN (l : List Int) (k : Nat) : Nat := ((l.drop (k + 2)).takeWhile isDig).length
def hexN (l : List Int) (k : Nat) : Nat := ((l.drop (k + 3)).takeWhile isHex).length
def refF (l : List Int) (k : Nat) : Nat × Nat × Bool :=
  if startsF l k [38, 35, 120] && endedF l (k + 3) (hexN l k) then (3, k + 4 + hexN l k, true)
  else if startsF l k [38, 35] && endedF l (k + 2) (digN l k) then (3, k + 3 + digN l k, true)
  else if endedF l (k + 1) (leadF l (k + 1)) then (2, k + 2 + leadF l (k + 1), true)
  else (11, k + 1, false)
theorem lead_shift (l : List Int) (k p : Nat) : leadF l (k + p) = leadF (l.drop k) p := by
  rw [leadF, leadF, List.getElem?_drop, List.drop_drop]
theorem refF_pos (l : List Int) (k : Nat) : k < (refF l k).2.1 := by
  unfold refF
  repeat' split
  all_goals (simp only; omega)
theorem ended_le (l : List Int) (p n : Nat) (h : endedF l p n = true) : p + n < l.length := by
  rw [endedF, Bool.and_eq_true, beq_iff_eq] at h
  exact (List.getElem?_eq_some_iff.1 h.2).1
theorem refF_le (l : List Int) (k : Nat) (hk : k < l.length) : (refF l k).2.1 ≤ l.length := by
  unfold refF
  split
  · rename_i h
    have := ended_le _ _ _ (Bool.and_eq_true_iff.1 h).2
    simp only; omega
  · split
    · rename_i h
      have := ended_le _ _ _ (Bool.and_eq_true_iff.1 h).2
      simp only; omega
    · split
      · rename_i h
        have := ended_le _ _ _ h
        simp only; omega
      · simp only; omega
end Go.Proofs.YtaklahcbeldbhaaGreatDoor
namespace Go.Proofs.YtaklahcbeldbhaaGreatDoor
open Go.RowKit Go.Lib
theorem there_below {w W : World} {b o n : Nat} (h : w.there b o n) (hb : Below w.heap.size w W) (hlt : b < w.heap.size) : W.there b o n := fun j hj => by
  obtain ⟨h1, h2⟩ := h j hj
  refine ⟨?_, ?_⟩
  · rw [World.cell?_of_block (hb.block _ hlt)]; exact h1
  · rw [World.frozen?_of_block (hb.block _ hlt)]; exact h2
theorem there_lit (w : World) (cs : Array Value) (t : TypeId) : (w.alloc (.cells cs t)).there w.heap.size 0 cs.size := fun j hj => by
  refine ⟨?_, by simp⟩
  rw [World.cell?_alloc_at _ _ _ _ rfl]
  simp [hj]
theorem below_setCells2 {B : Nat} {w0 w : World} (h : Below B w0 w) (b : Nat) (hb : B ≤ b) (vs : List Value) (o : Nat) : Below B w0 (w.setCells b o vs) := by
  induction vs generalizing o w with
  | nil => exact h
  | cons v r ih => exact ih (h.setCell hb _) (o + 1)
theorem load_struct {P : Program} {T : TypeId} {d : TypeDesc} (W : World) (B : Nat) (vs : List Value) (ht : W.there B 0 vs.length) (hi : (P.info? T).map (·.size) = some vs.length)
    (hu : P.underlying T = some d) (hd : d.isRow = true) : (loadVar T ⟨B, 0, none⟩).run P (W.setCells B 0 vs) = .ok (.agg vs.toArray) (W.setCells B 0 vs) :=
  run_loadVar_mid (P := P) (W.setCells B 0 vs) B 0 T vs d (World.rangeAt_setCells_same W B 0 vs ht) hu hd hi
theorem there_cell {w : World} {b n : Nat} (h : w.there b 0 n) (i : Nat) (hi : i < n) : (∃ v, w.cell? ⟨b, i, none⟩ = some v) ∧ w.frozen? ⟨b, i, none⟩ = false := by
  have := h i hi
  rw [Nat.zero_add] at this
  exact ⟨Option.isSome_iff_exists.1 this.1, this.2⟩
theorem results_cell1 {P : Program} {fn : Func} {t : Tmp} {T : TypeId} {a : Addr} {v : Value} {w : World} (h : fn.results = #[.cell t T]) (tmps : Array Value)
    (ha : tmps.getD t undef = .pointer (some a)) (hl : (loadVar T a).run P w = .ok v w) : (results fn tmps).run P w = .ok v w := by
  have ha' : tmps[t]?.getD undef = .pointer (some a) := by simpa using ha
  simp [results, h, ha', asAddr, hl]
theorem results_cell2 {P : Program} {fn : Func} {t u : Tmp} {T : TypeId} {a : Addr} {v : Value} {w : World} (h : fn.results = #[.cell t T, .tmp u]) (tmps : Array Value)
    (ha : tmps.getD t undef = .pointer (some a)) (hl : (loadVar T a).run P w = .ok v w) : (results fn tmps).run P w = .ok (.tuple #[v, tmps.getD u undef]) w := by
  have ha' : tmps[t]?.getD undef = .pointer (some a) := by simpa using ha
  simp [results, h, ha', asAddr, hl]
set_option maxRecDepth 100000 in
theorem LDigit_any (r : Int) (w : World) : Calls Tryz.prog 112 #[.int .i32 r] w fun e w' => e = .returned (.bool (isDig r)) ∧ w = w' := by
  have HD := Lib.hid (Digit_any r w)
  generalize (digitF r).1 = d1 at HD
  have HQ : Hid (isDig r = (digitF r).2) := rfl
  generalize (digitF r).2 = d2 at HD HQ
  go_enter Tryz.func112, Tryz.ntmps112
  go_wp2_with fail
  refine HD.out.mono ?_
  rintro e w' ⟨rfl, rfl⟩
  go_wp2
  go_ret
  exact ⟨ret_bool HQ.out.symm, rfl⟩
set_option maxRecDepth 100000 in
theorem LHex_any (r : Int) (w : World) : Calls Tryz.prog 113 #[.int .i32 r] w fun e w' => e = .returned (.bool (isHex r)) ∧ w = w' := by
  have HD := Lib.hid (Hex_any r w)
  generalize (hexF r).1 = d1 at HD
  have HQ : Hid (isHex r = (hexF r).2) := rfl
  generalize (hexF r).2 = d2 at HD HQ
  go_enter Tryz.func113, Tryz.ntmps113
  go_wp2_with fail
  refine HD.out.mono ?_
  rintro e w' ⟨rfl, rfl⟩
  go_wp2
  go_ret
  exact ⟨ret_bool HQ.out.symm, rfl⟩
theorem LDigit_ok (w : World) : PredOk Tryz.prog 112 #[] isDig w := fun W r _ => (LDigit_any r W).mono fun _ _ ⟨h1, h2⟩ => ⟨h1, h2 ▸ Below.refl _ _⟩
theorem LHex_ok (w : World) : PredOk Tryz.prog 113 #[] isHex w := fun W r _ => (LHex_any r W).mono fun _ _ ⟨h1, h2⟩ => ⟨h1, h2 ▸ Below.refl _ _⟩
theorem eg_LDigit : ∀ args w, (callFunc 112 args).run Tryz.prog w = .ok (.enter 112 args) w := enters_of Tryz.func112 (by kernel_rfl) rfl
theorem eg_LHex : ∀ args w, (callFunc 113 args).run Tryz.prog w = .ok (.enter 113 args) w := enters_of Tryz.func113 (by kernel_rfl) rfl
set_option maxHeartbeats 1000000 in
set_option maxRecDepth 100000 in
theorem Ended_any (S : Nat → Prop) (A : Option Addr) (n c : Nat) (l : List Int) (p m : Nat) (w : World) (hr : Rd w S 1 A n c (rc l)) (hp : p ≤ 2000000000) (hm : m ≤ 2000000000) :
    Calls Tryz.prog 114 #[.slice A n c, .int .i64 p, .int .i64 m] w fun e w' => e = .returned (.bool (endedF l p m)) ∧ w = w' := by
  obtain rfl := hr.rlen
  have hle := hr.le
  have hmx : c ≤ 9223372036854775807 := hr.max
  by_cases h0 : 0 < m
  · have h0i : (m : Int) > 0 := by omega
    by_cases hlt : p + m < l.length
    · have hlti : (p : Int) + (m : Int) < (l.length : Int) := by omega
      obtain ⟨b, o, rfl, hc0⟩ := hr.rune hlt
      have HE : Hid (endedF l p m = (l[p + m] == 59)) := by
        rw [Hid, endedF, decide_eq_true h0, List.getElem?_eq_getElem hlt, Bool.true_and]
        rfl
      clear hr
      generalize l[p + m] = r at hc0 HE
      generalize endedF l p m = q at HE ⊢
      go_enter Tryz.func114, Tryz.ntmps114
      go_wp2
      go_ret
      exact ⟨ret_bool HE.out.symm, rfl⟩
    · have hlti : ¬ (p : Int) + (m : Int) < (l.length : Int) := by omega
      have HE : Hid (endedF l p m = false) := by rw [Hid, endedF, decide_eq_true h0, List.getElem?_eq_none (by omega)]; rfl
      clear hr
      go_enter Tryz.func114, Tryz.ntmps114
      go_wp2
      go_ret
      exact ⟨ret_bool HE.out.symm, rfl⟩
  · have h0i : ¬ (m : Int) > 0 := by omega
    have HE : Hid (endedF l p m = false) := by rw [Hid, endedF, decide_eq_false h0]; rfl
    clear hr
    go_enter Tryz.func114, Tryz.ntmps114
    go_wp2
    go_ret
    exact ⟨ret_bool HE.out.symm, rfl⟩
def tokV (t : Nat × Nat × Bool) (k : Nat) : Value := .agg #[.int .i64 t.1, .int .i64 k, .int .i64 t.2.1, .bool t.2.2]
theorem runMin (p : Int → Bool) (l : List Int) (k j : Nat) : runF p l ((min (k + j) l.length : Nat) : Int) = ((l.drop (k + j)).takeWhile p).length := by
  rw [runF, if_neg (by omega), Int.toNat_natCast]
  by_cases h : k + j ≤ l.length
  · rw [Nat.min_eq_left h]
  · rw [Nat.min_eq_right (by omega), List.drop_eq_nil_of_le (Nat.le_refl _), List.drop_eq_nil_of_le (by omega)]
set_option maxHeartbeats 2000000 in
set_option maxRecDepth 100000 in
theorem Ref_any (S : Nat → Prop) (A : Option Addr) (n c : Nat) (l : List Int) (k : Nat) (w : World) (hr : Rd w S 1 A n c (rc l)) (hk : k < l.length) (hl9 : l.length ≤ 1000000000) :
    Calls Tryz.prog 95 #[.slice A n c, .int .i64 k] w fun e w' => e = .returned (tokV (refF l k) k) ∧ Below w.heap.size w w' := by
  obtain rfl := hr.rlen
  have hle := hr.le
  have hmx : c ≤ 9223372036854775807 := hr.max
  have HR := Lib.hid hr
  have HRN : ∀ W, Below w.heap.size w W → Hid (Calls Tryz.prog 96 #[.slice A l.length c, .int .i64 (min (k + 2) l.length : Nat), .func (.func 112) #[] #[]] W fun e w' => e = .returned (.int .i64 (digN l k)) ∧ Below W.heap.size W w') := fun W h => by
    have := Run_any S A l.length c l (min (k + 2) l.length : Nat) 112 #[] isDig W eg_LDigit (HR.out.below h) (LDigit_ok W)
    rwa [runMin] at this
  have HRX : ∀ W, Below w.heap.size w W → Hid (Calls Tryz.prog 96 #[.slice A l.length c, .int .i64 (min (k + 3) l.length : Nat), .func (.func 113) #[] #[]] W fun e w' => e = .returned (.int .i64 (hexN l k)) ∧ Below W.heap.size W w') := fun W h => by
    have := Run_any S A l.length c l (min (k + 3) l.length : Nat) 113 #[] isHex W eg_LHex (HR.out.below h) (LHex_ok W)
    rwa [runMin] at this
  have hm2 : ∀ ts t W, (Builtin.min_ ts t #[.int .i64 ((k : Int) + 2), .int .i64 (l.length : Int)]).run Tryz.prog W = .ok (.int .i64 (min (k + 2) l.length : Nat)) W := fun ts t W => by
    rw [run_min_int2]
    congr 2
    split <;> omega
  have hm3 : ∀ ts t W, (Builtin.min_ ts t #[.int .i64 ((k : Int) + 3), .int .i64 (l.length : Int)]).run Tryz.prog W = .ok (.int .i64 (min (k + 3) l.length : Nat)) W := fun ts t W => by
    rw [run_min_int2]
    congr 2
    split <;> omega
  have HS1 : ∀ W, Below w.heap.size w W → Hid (Calls Tryz.prog 105 #[.slice A l.length c, .int .i64 k, .string ⟨#[38, 35, 120]⟩] W fun e w' => e = .returned (.bool (startsF l k [38, 35, 120])) ∧ Below W.heap.size W w') :=
    fun W h => Starts_any S A l.length c l k ⟨#[38, 35, 120]⟩ W (HR.out.below h) (by omega) hl9 (by decide)
  have HS2 : ∀ W, Below w.heap.size w W → Hid (Calls Tryz.prog 105 #[.slice A l.length c, .int .i64 k, .string ⟨#[38, 35]⟩] W fun e w' => e = .returned (.bool (startsF l k [38, 35])) ∧ Below W.heap.size W w') :=
    fun W h => Starts_any S A l.length c l k ⟨#[38, 35]⟩ W (HR.out.below h) (by omega) hl9 (by decide)
  have hdn : digN l k ≤ 1000000000 := by have := (List.takeWhile_sublist isDig (l := l.drop (k + 2))).length_le; rw [List.length_drop] at this; unfold digN; omega
  have hxn : hexN l k ≤ 1000000000 := by have := (List.takeWhile_sublist isHex (l := l.drop (k + 3))).length_le; rw [List.length_drop] at this; unfold hexN; omega
  have hln : leadF l (k + 1) ≤ 1000000000 := by
    rw [lead_shift l k 1]
    unfold leadF
    split
    · omega
    · split
      · have := (List.takeWhile_sublist isNameChar (l := (l.drop k).drop 1)).length_le
        simp only [List.length_drop] at this; omega
      · omega
  have HLD : ∀ W, Below w.heap.size w W → Hid (Calls Tryz.prog 103 #[.slice A l.length c, .int .i64 ((k : Int) + 1)] W fun e w' => e = .returned (.int .i64 (leadF l (k + 1))) ∧ Below W.heap.size W w') := fun W h => by
    rw [show ((k : Int) + 1) = ((k + 1 : Nat) : Int) by omega]
    exact NLead_any S A l.length c l (k + 1) W (HR.out.below h) (by omega)
  have HE1 : ∀ W, Below w.heap.size w W → Hid (Calls Tryz.prog 114 #[.slice A l.length c, .int .i64 ((k : Int) + 3), .int .i64 (hexN l k)] W fun e w' => e = .returned (.bool (endedF l (k + 3) (hexN l k))) ∧ W = w') := fun W h => by
    rw [show ((k : Int) + 3) = ((k + 3 : Nat) : Int) by omega]
    exact Ended_any S A l.length c l (k + 3) (hexN l k) W (HR.out.below h) (by omega) (by omega)
  have HE2 : ∀ W, Below w.heap.size w W → Hid (Calls Tryz.prog 114 #[.slice A l.length c, .int .i64 ((k : Int) + 2), .int .i64 (digN l k)] W fun e w' => e = .returned (.bool (endedF l (k + 2) (digN l k))) ∧ W = w') := fun W h => by
    rw [show ((k : Int) + 2) = ((k + 2 : Nat) : Int) by omega]
    exact Ended_any S A l.length c l (k + 2) (digN l k) W (HR.out.below h) (by omega) (by omega)
  have HE3 : ∀ W, Below w.heap.size w W → Hid (Calls Tryz.prog 114 #[.slice A l.length c, .int .i64 ((k : Int) + 1), .int .i64 (leadF l (k + 1))] W fun e w' => e = .returned (.bool (endedF l (k + 1) (leadF l (k + 1)))) ∧ W = w') := fun W h => by
    rw [show ((k : Int) + 1) = ((k + 1 : Nat) : Int) by omega]
    exact Ended_any S A l.length c l (k + 1) (leadF l (k + 1)) W (HR.out.below h) (by omega) (by omega)
  have HREF : Hid (refF l k = if startsF l k [38, 35, 120] && endedF l (k + 3) (hexN l k) then (3, k + 4 + hexN l k, true)
    else if startsF l k [38, 35] && endedF l (k + 2) (digN l k) then (3, k + 3 + digN l k, true)
    else if endedF l (k + 1) (leadF l (k + 1)) then (2, k + 2 + leadF l (k + 1), true) else (11, k + 1, false)) := rfl
  generalize startsF l k [38, 35, 120] = s1 at HS1 HREF
  generalize startsF l k [38, 35] = s2 at HS2 HREF
  generalize endedF l (k + 3) (hexN l k) = e1 at HE1 HREF
  generalize endedF l (k + 2) (digN l k) = e2 at HE2 HREF
  generalize endedF l (k + 1) (leadF l (k + 1)) = e3 at HE3 HREF
  generalize hexN l k = x at HRX HE1 HREF hxn
  generalize digN l k = nd at HRN HE2 HREF hdn
  generalize leadF l (k + 1) = d at HLD HE3 HREF hln
  generalize min (k + 2) l.length = m2 at HRN hm2
  generalize min (k + 3) l.length = m3 at HRX hm3
  clear hr
  go_enter Tryz.func95, Tryz.ntmps95
  go_wp2_with fail
  have HTH0 := Lib.hid (there_lit w #[.int .i64 0, .int .i64 0, .int .i64 0, .bool false] 109)
  have HB0 := Lib.hid (ba w (.cells #[.int .i64 0, .int .i64 0, .int .i64 0, .bool false] 109))
  have HSZ : Hid (w.heap.size + 1 ≤ (w.alloc (.cells #[.int .i64 0, .int .i64 0, .int .i64 0, .bool false] 109)).heap.size) := by simp [Hid]
  generalize w.alloc (.cells #[.int .i64 0, .int .i64 0, .int .i64 0, .bool false] 109) = W0 at HTH0 HB0 HSZ
  refine (HRN _ HB0.out).out.mono ?_
  rintro e w1 ⟨rfl, hb1⟩
  have HB1 := Lib.hid (HB0.out.trans (hb1.mono HB0.out.size))
  have HTH1 := Lib.hid (there_below HTH0.out hb1 (by have := HSZ.out; omega))
  have HLT : Hid (w.heap.size < w1.heap.size) := by have := HSZ.out; have := hb1.size; show _ < _; omega
  clear hb1
  go_wp2_with fail
  refine (HRX _ HB1.out).out.mono ?_
  rintro e w2 ⟨rfl, hb2⟩
  have HB2 := Lib.hid (HB1.out.trans (hb2.mono HB1.out.size))
  have HTH2 := Lib.hid (there_below HTH1.out hb2 HLT.out)
  have HLT := Lib.hid (Nat.lt_of_lt_of_le HLT.out hb2.size)
  clear hb2
  go_wp2_with fail
  refine (HLD _ HB2.out).out.mono ?_
  rintro e w3 ⟨rfl, hb3⟩
  have HB3 := Lib.hid (HB2.out.trans (hb3.mono HB2.out.size))
  have HTH3 := Lib.hid (there_below HTH2.out hb3 HLT.out)
  have HLT := Lib.hid (Nat.lt_of_lt_of_le HLT.out hb3.size)
  clear hb3
  go_wp2_with fail
  refine (HS1 _ HB3.out).out.mono ?_
  rintro e w4 ⟨rfl, hb4⟩
  have HB4 := Lib.hid (HB3.out.trans (hb4.mono HB3.out.size))
  have HTH4 := Lib.hid (there_below HTH3.out hb4 HLT.out)
  have HLT := Lib.hid (Nat.lt_of_lt_of_le HLT.out hb4.size)
  clear hb4 HB0 HB1 HB2 HB3 HTH0 HTH1 HTH2 HTH3 HRN HRX HLD HS1
  cases s1 with
  | true =>
    go_wp2_with fail
    refine (HE1 _ HB4.out).out.mono ?_
    rintro e wx ⟨rfl, rfl⟩
    cases e1 with
    | true =>
      have HV : Hid (tokV (refF l k) k = .agg #[.int .i64 3, .int .i64 k, .int .i64 ((k : Int) + 4 + (x : Int)), .bool true]) := by rw [Hid, HREF.out]; simp [tokV]
      have HL9 := Lib.hid (load_struct (P := Tryz.prog) (T := 109) w4 w.heap.size [.int .i64 3, .int .i64 k, .int .i64 ((k : Int) + 4 + (x : Int)), .bool true] HTH4.out (by kernel_rfl) Tryz.underlying109 rfl)
      have HB9 := Lib.hid (below_setCells2 HB4.out w.heap.size (Nat.le_refl _) [.int .i64 3, .int .i64 k, .int .i64 ((k : Int) + 4 + (x : Int)), .bool true] 0)
      obtain ⟨⟨z0, hz0⟩, hf0⟩ := there_cell HTH4.out 0 (by decide)
      obtain ⟨⟨z1, hz1⟩, hf1⟩ := there_cell HTH4.out 1 (by decide)
      obtain ⟨⟨z2, hz2⟩, hf2⟩ := there_cell HTH4.out 2 (by decide)
      obtain ⟨⟨z3, hz3⟩, hf3⟩ := there_cell HTH4.out 3 (by decide)
      go_wp2
      refine bodyPost_ret (results_cell1 rfl _ rfl HL9.out) rfl ?_
      rw [HV.out]
      exact ⟨rfl, HB9.out⟩
    | false =>
      go_wp2_with fail
      refine (HS2 _ HB4.out).out.mono ?_
      rintro e w5 ⟨rfl, hb5⟩
      have HB5 := Lib.hid (HB4.out.trans (hb5.mono HB4.out.size))
      have HTH5 := Lib.hid (there_below HTH4.out hb5 HLT.out)
      clear hb5
      cases s2 with
      | true =>
        go_wp2_with fail
        refine (HE2 _ HB5.out).out.mono ?_
        rintro e wx ⟨rfl, rfl⟩
        cases e2 with
        | true =>
          have HV : Hid (tokV (refF l k) k = .agg #[.int .i64 3, .int .i64 k, .int .i64 ((k : Int) + 3 + (nd : Int)), .bool true]) := by rw [Hid, HREF.out]; simp [tokV]
          have HL9 := Lib.hid (load_struct (P := Tryz.prog) (T := 109) w5 w.heap.size [.int .i64 3, .int .i64 k, .int .i64 ((k : Int) + 3 + (nd : Int)), .bool true] HTH5.out (by kernel_rfl) Tryz.underlying109 rfl)
          have HB9 := Lib.hid (below_setCells2 HB5.out w.heap.size (Nat.le_refl _) [.int .i64 3, .int .i64 k, .int .i64 ((k : Int) + 3 + (nd : Int)), .bool true] 0)
          obtain ⟨⟨z0, hz0⟩, hf0⟩ := there_cell HTH5.out 0 (by decide)
          obtain ⟨⟨z1, hz1⟩, hf1⟩ := there_cell HTH5.out 1 (by decide)
          obtain ⟨⟨z2, hz2⟩, hf2⟩ := there_cell HTH5.out 2 (by decide)
          obtain ⟨⟨z3, hz3⟩, hf3⟩ := there_cell HTH5.out 3 (by decide)
          go_wp2
          refine bodyPost_ret (results_cell1 rfl _ rfl HL9.out) rfl ?_
          rw [HV.out]
          exact ⟨rfl, HB9.out⟩
        | false =>
          go_wp2_with fail
          refine (HE3 _ HB5.out).out.mono ?_
          rintro e wx ⟨rfl, rfl⟩
          cases e3 with
          | true =>
            have HV : Hid (tokV (refF l k) k = .agg #[.int .i64 2, .int .i64 k, .int .i64 ((k : Int) + 2 + (d : Int)), .bool true]) := by rw [Hid, HREF.out]; simp [tokV]
            have HL9 := Lib.hid (load_struct (P := Tryz.prog) (T := 109) w5 w.heap.size [.int .i64 2, .int .i64 k, .int .i64 ((k : Int) + 2 + (d : Int)), .bool true] HTH5.out (by kernel_rfl) Tryz.underlying109 rfl)
            have HB9 := Lib.hid (below_setCells2 HB5.out w.heap.size (Nat.le_refl _) [.int .i64 2, .int .i64 k, .int .i64 ((k : Int) + 2 + (d : Int)), .bool true] 0)
            obtain ⟨⟨z0, hz0⟩, hf0⟩ := there_cell HTH5.out 0 (by decide)
            obtain ⟨⟨z1, hz1⟩, hf1⟩ := there_cell HTH5.out 1 (by decide)
            obtain ⟨⟨z2, hz2⟩, hf2⟩ := there_cell HTH5.out 2 (by decide)
            obtain ⟨⟨z3, hz3⟩, hf3⟩ := there_cell HTH5.out 3 (by decide)
            go_wp2
            refine bodyPost_ret (results_cell1 rfl _ rfl HL9.out) rfl ?_
            rw [HV.out]
            exact ⟨rfl, HB9.out⟩
          | false =>
            have HV : Hid (tokV (refF l k) k = .agg #[.int .i64 11, .int .i64 k, .int .i64 ((k : Int) + 1), .bool false]) := by rw [Hid, HREF.out]; simp [tokV]
            have HL9 := Lib.hid (load_struct (P := Tryz.prog) (T := 109) w5 w.heap.size [.int .i64 11, .int .i64 k, .int .i64 ((k : Int) + 1), .bool false] HTH5.out (by kernel_rfl) Tryz.underlying109 rfl)
            have HB9 := Lib.hid (below_setCells2 HB5.out w.heap.size (Nat.le_refl _) [.int .i64 11, .int .i64 k, .int .i64 ((k : Int) + 1), .bool false] 0)
            obtain ⟨⟨z0, hz0⟩, hf0⟩ := there_cell HTH5.out 0 (by decide)
            obtain ⟨⟨z1, hz1⟩, hf1⟩ := there_cell HTH5.out 1 (by decide)
            obtain ⟨⟨z2, hz2⟩, hf2⟩ := there_cell HTH5.out 2 (by decide)
            obtain ⟨⟨z3, hz3⟩, hf3⟩ := there_cell HTH5.out 3 (by decide)
            go_wp2
            refine bodyPost_ret (results_cell1 rfl _ rfl HL9.out) rfl ?_
            rw [HV.out]
            exact ⟨rfl, HB9.out⟩
      | false =>
        go_wp2_with fail
        refine (HE3 _ HB5.out).out.mono ?_
        rintro e wx ⟨rfl, rfl⟩
        cases e3 with
        | true =>
          have HV : Hid (tokV (refF l k) k = .agg #[.int .i64 2, .int .i64 k, .int .i64 ((k : Int) + 2 + (d : Int)), .bool true]) := by rw [Hid, HREF.out]; simp [tokV]
          have HL9 := Lib.hid (load_struct (P := Tryz.prog) (T := 109) w5 w.heap.size [.int .i64 2, .int .i64 k, .int .i64 ((k : Int) + 2 + (d : Int)), .bool true] HTH5.out (by kernel_rfl) Tryz.underlying109 rfl)
          have HB9 := Lib.hid (below_setCells2 HB5.out w.heap.size (Nat.le_refl _) [.int .i64 2, .int .i64 k, .int .i64 ((k : Int) + 2 + (d : Int)), .bool true] 0)
          obtain ⟨⟨z0, hz0⟩, hf0⟩ := there_cell HTH5.out 0 (by decide)
          obtain ⟨⟨z1, hz1⟩, hf1⟩ := there_cell HTH5.out 1 (by decide)
          obtain ⟨⟨z2, hz2⟩, hf2⟩ := there_cell HTH5.out 2 (by decide)
          obtain ⟨⟨z3, hz3⟩, hf3⟩ := there_cell HTH5.out 3 (by decide)
          go_wp2
          refine bodyPost_ret (results_cell1 rfl _ rfl HL9.out) rfl ?_
          rw [HV.out]
          exact ⟨rfl, HB9.out⟩
        | false =>
          have HV : Hid (tokV (refF l k) k = .agg #[.int .i64 11, .int .i64 k, .int .i64 ((k : Int) + 1), .bool false]) := by rw [Hid, HREF.out]; simp [tokV]
          have HL9 := Lib.hid (load_struct (P := Tryz.prog) (T := 109) w5 w.heap.size [.int .i64 11, .int .i64 k, .int .i64 ((k : Int) + 1), .bool false] HTH5.out (by kernel_rfl) Tryz.underlying109 rfl)
          have HB9 := Lib.hid (below_setCells2 HB5.out w.heap.size (Nat.le_refl _) [.int .i64 11, .int .i64 k, .int .i64 ((k : Int) + 1), .bool false] 0)
          obtain ⟨⟨z0, hz0⟩, hf0⟩ := there_cell HTH5.out 0 (by decide)
          obtain ⟨⟨z1, hz1⟩, hf1⟩ := there_cell HTH5.out 1 (by decide)
          obtain ⟨⟨z2, hz2⟩, hf2⟩ := there_cell HTH5.out 2 (by decide)
          obtain ⟨⟨z3, hz3⟩, hf3⟩ := there_cell HTH5.out 3 (by decide)
          go_wp2
          refine bodyPost_ret (results_cell1 rfl _ rfl HL9.out) rfl ?_
          rw [HV.out]
          exact ⟨rfl, HB9.out⟩
  | false =>
    go_wp2_with fail
    refine (HS2 _ HB4.out).out.mono ?_
    rintro e w5 ⟨rfl, hb5⟩
    have HB5 := Lib.hid (HB4.out.trans (hb5.mono HB4.out.size))
    have HTH5 := Lib.hid (there_below HTH4.out hb5 HLT.out)
    clear hb5
    cases s2 with
    | true =>
      go_wp2_with fail
      refine (HE2 _ HB5.out).out.mono ?_
      rintro e wx ⟨rfl, rfl⟩
      cases e2 with
      | true =>
        have HV : Hid (tokV (refF l k) k = .agg #[.int .i64 3, .int .i64 k, .int .i64 ((k : Int) + 3 + (nd : Int)), .bool true]) := by rw [Hid, HREF.out]; simp [tokV]
        have HL9 := Lib.hid (load_struct (P := Tryz.prog) (T := 109) w5 w.heap.size [.int .i64 3, .int .i64 k, .int .i64 ((k : Int) + 3 + (nd : Int)), .bool true] HTH5.out (by kernel_rfl) Tryz.underlying109 rfl)
        have HB9 := Lib.hid (below_setCells2 HB5.out w.heap.size (Nat.le_refl _) [.int .i64 3, .int .i64 k, .int .i64 ((k : Int) + 3 + (nd : Int)), .bool true] 0)
        obtain ⟨⟨z0, hz0⟩, hf0⟩ := there_cell HTH5.out 0 (by decide)
        obtain ⟨⟨z1, hz1⟩, hf1⟩ := there_cell HTH5.out 1 (by decide)
        obtain ⟨⟨z2, hz2⟩, hf2⟩ := there_cell HTH5.out 2 (by decide)
        obtain ⟨⟨z3, hz3⟩, hf3⟩ := there_cell HTH5.out 3 (by decide)
        go_wp2
        refine bodyPost_ret (results_cell1 rfl _ rfl HL9.out) rfl ?_
        rw [HV.out]
        exact ⟨rfl, HB9.out⟩
      | false =>
        go_wp2_with fail
        refine (HE3 _ HB5.out).out.mono ?_
        rintro e wx ⟨rfl, rfl⟩
        cases e3 with
        | true =>
          have HV : Hid (tokV (refF l k) k = .agg #[.int .i64 2, .int .i64 k, .int .i64 ((k : Int) + 2 + (d : Int)), .bool true]) := by rw [Hid, HREF.out]; simp [tokV]
          have HL9 := Lib.hid (load_struct (P := Tryz.prog) (T := 109) w5 w.heap.size [.int .i64 2, .int .i64 k, .int .i64 ((k : Int) + 2 + (d : Int)), .bool true] HTH5.out (by kernel_rfl) Tryz.underlying109 rfl)
          have HB9 := Lib.hid (below_setCells2 HB5.out w.heap.size (Nat.le_refl _) [.int .i64 2, .int .i64 k, .int .i64 ((k : Int) + 2 + (d : Int)), .bool true] 0)
          obtain ⟨⟨z0, hz0⟩, hf0⟩ := there_cell HTH5.out 0 (by decide)
          obtain ⟨⟨z1, hz1⟩, hf1⟩ := there_cell HTH5.out 1 (by decide)
          obtain ⟨⟨z2, hz2⟩, hf2⟩ := there_cell HTH5.out 2 (by decide)
          obtain ⟨⟨z3, hz3⟩, hf3⟩ := there_cell HTH5.out 3 (by decide)
          go_wp2
          refine bodyPost_ret (results_cell1 rfl _ rfl HL9.out) rfl ?_
          rw [HV.out]
          exact ⟨rfl, HB9.out⟩
        | false =>
          have HV : Hid (tokV (refF l k) k = .agg #[.int .i64 11, .int .i64 k, .int .i64 ((k : Int) + 1), .bool false]) := by rw [Hid, HREF.out]; simp [tokV]
          have HL9 := Lib.hid (load_struct (P := Tryz.prog) (T := 109) w5 w.heap.size [.int .i64 11, .int .i64 k, .int .i64 ((k : Int) + 1), .bool false] HTH5.out (by kernel_rfl) Tryz.underlying109 rfl)
          have HB9 := Lib.hid (below_setCells2 HB5.out w.heap.size (Nat.le_refl _) [.int .i64 11, .int .i64 k, .int .i64 ((k : Int) + 1), .bool false] 0)
          obtain ⟨⟨z0, hz0⟩, hf0⟩ := there_cell HTH5.out 0 (by decide)
          obtain ⟨⟨z1, hz1⟩, hf1⟩ := there_cell HTH5.out 1 (by decide)
          obtain ⟨⟨z2, hz2⟩, hf2⟩ := there_cell HTH5.out 2 (by decide)
          obtain ⟨⟨z3, hz3⟩, hf3⟩ := there_cell HTH5.out 3 (by decide)
          go_wp2
          refine bodyPost_ret (results_cell1 rfl _ rfl HL9.out) rfl ?_
          rw [HV.out]
          exact ⟨rfl, HB9.out⟩
    | false =>
      go_wp2_with fail
      refine (HE3 _ HB5.out).out.mono ?_
      rintro e wx ⟨rfl, rfl⟩
      cases e3 with
      | true =>
        have HV : Hid (tokV (refF l k) k = .agg #[.int .i64 2, .int .i64 k, .int .i64 ((k : Int) + 2 + (d : Int)), .bool true]) := by rw [Hid, HREF.out]; simp [tokV]
        have HL9 := Lib.hid (load_struct (P := Tryz.prog) (T := 109) w5 w.heap.size [.int .i64 2, .int .i64 k, .int .i64 ((k : Int) + 2 + (d : Int)), .bool true] HTH5.out (by kernel_rfl) Tryz.underlying109 rfl)
        have HB9 := Lib.hid (below_setCells2 HB5.out w.heap.size (Nat.le_refl _) [.int .i64 2, .int .i64 k, .int .i64 ((k : Int) + 2 + (d : Int)), .bool true] 0)
        obtain ⟨⟨z0, hz0⟩, hf0⟩ := there_cell HTH5.out 0 (by decide)
        obtain ⟨⟨z1, hz1⟩, hf1⟩ := there_cell HTH5.out 1 (by decide)
        obtain ⟨⟨z2, hz2⟩, hf2⟩ := there_cell HTH5.out 2 (by decide)
        obtain ⟨⟨z3, hz3⟩, hf3⟩ := there_cell HTH5.out 3 (by decide)
        go_wp2
        refine bodyPost_ret (results_cell1 rfl _ rfl HL9.out) rfl ?_
        rw [HV.out]
        exact ⟨rfl, HB9.out⟩
      | false =>
        have HV : Hid (tokV (refF l k) k = .agg #[.int .i64 11, .int .i64 k, .int .i64 ((k : Int) + 1), .bool false]) := by rw [Hid, HREF.out]; simp [tokV]
        have HL9 := Lib.hid (load_struct (P := Tryz.prog) (T := 109) w5 w.heap.size [.int .i64 11, .int .i64 k, .int .i64 ((k : Int) + 1), .bool false] HTH5.out (by kernel_rfl) Tryz.underlying109 rfl)
        have HB9 := Lib.hid (below_setCells2 HB5.out w.heap.size (Nat.le_refl _) [.int .i64 11, .int .i64 k, .int .i64 ((k : Int) + 1), .bool false] 0)
        obtain ⟨⟨z0, hz0⟩, hf0⟩ := there_cell HTH5.out 0 (by decide)
        obtain ⟨⟨z1, hz1⟩, hf1⟩ := there_cell HTH5.out 1 (by decide)
        obtain ⟨⟨z2, hz2⟩, hf2⟩ := there_cell HTH5.out 2 (by decide)
        obtain ⟨⟨z3, hz3⟩, hf3⟩ := there_cell HTH5.out 3 (by decide)
        go_wp2
        refine bodyPost_ret (results_cell1 rfl _ rfl HL9.out) rfl ?_
        rw [HV.out]
        exact ⟨rfl, HB9.out⟩
end Go.Proofs.YtaklahcbeldbhaaGreatDoor
namespace Go.Proofs.YtaklahcbeldbhaaGreatDoor
open Go.RowKit Go.Lib
def isQuo (r : Int) : Bool := r == 34 || r == 39
def quoF (l : List Int) (q : Int) (k : Nat) : Nat × Bool := if h : k < l.length then (if l[k] = q then (k + 1, true) else quoF l q (k + 1)) else (l.length, false)
termination_by l.length - k
theorem quoF_hit (l : List Int) (q : Int) (k : Nat) (h : k < l.length) (hq : l[k] = q) : quoF l q k = (k + 1, true) := by rw [quoF, dif_pos h, if_pos hq]
theorem quoF_miss (l : List Int) (q : Int) (k : Nat) (h : k < l.length) (hq : l[k] ≠ q) : quoF l q k = quoF l q (k + 1) := by rw [quoF, dif_pos h, if_neg hq]
theorem quoF_end (l : List Int) (q : Int) (k : Nat) (h : ¬ k < l.length) : quoF l q k = (l.length, false) := by rw [quoF, dif_neg h]
theorem quoF_range (l : List Int) (q : Int) : ∀ (n k : Nat), l.length - k ≤ n → k ≤ l.length → k ≤ (quoF l q k).1 ∧ (quoF l q k).1 ≤ l.length ∧ (k < l.length → k < (quoF l q k).1 ∨ (quoF l q k).1 = l.length) := by
  intro n
  induction n with
  | zero =>
    intro k h hk
    rw [quoF_end l q k (by omega)]
    simp only; omega
  | succ n ih =>
    intro k h hk
    by_cases hlt : k < l.length
    · by_cases hq : l[k] = q
      · rw [quoF_hit l q k hlt hq]; simp only; omega
      · rw [quoF_miss l q k hlt hq]
        have := ih (k + 1) (by omega) (by omega)
        omega
    · rw [quoF_end l q k hlt]; simp only; omega
def quotedF (l : List Int) (k : Nat) : Nat × Bool := quoF l (l.getD k 0) (k + 1)
theorem quotedF_gt (l : List Int) (k : Nat) (h : k < l.length) : k < (quotedF l k).1 ∧ (quotedF l k).1 ≤ l.length := by
  have := quoF_range l (l.getD k 0) l.length (k + 1) (by omega) (by omega)
  unfold quotedF; omega
def angleF (l : List Int) (stops : Bool) (k : Nat) : Nat × Bool :=
  if h : k < l.length then
    (if isQuo l[k] then angleF l stops (quotedF l k).1 else if l[k] = 62 then (k, true) else if l[k] = 60 ∧ stops = true then (k, false) else angleF l stops (k + 1))
  else (l.length, false)
termination_by l.length - k
decreasing_by
  · have := quotedF_gt l k (by assumption); omega
  · omega
theorem angleF_end (l : List Int) (s : Bool) (k : Nat) (h : ¬ k < l.length) : angleF l s k = (l.length, false) := by rw [angleF, dif_neg h]
theorem angleF_quo (l : List Int) (s : Bool) (k : Nat) (h : k < l.length) (hq : isQuo l[k] = true) : angleF l s k = angleF l s (quotedF l k).1 := by
  conv => lhs; rw [angleF]
  rw [dif_pos h, if_pos hq]
theorem angleF_gt (l : List Int) (s : Bool) (k : Nat) (h : k < l.length) (hq : l[k] = 62) : angleF l s k = (k, true) := by
  rw [angleF, dif_pos h, if_neg (by rw [hq]; decide), if_pos hq]
theorem angleF_lt (l : List Int) (k : Nat) (h : k < l.length) (hq : l[k] = 60) : angleF l true k = (k, false) := by
  rw [angleF, dif_pos h, if_neg (by rw [hq]; decide), if_neg (by rw [hq]; decide), if_pos ⟨hq, rfl⟩]
theorem angleF_next (l : List Int) (s : Bool) (k : Nat) (h : k < l.length) (h1 : isQuo l[k] = false) (h2 : l[k] ≠ 62) (h3 : ¬ (l[k] = 60 ∧ s = true)) : angleF l s k = angleF l s (k + 1) := by
  conv => lhs; rw [angleF]
  rw [dif_pos h, if_neg (by simp [h1]), if_neg h2, if_neg h3]
theorem angleF_range (l : List Int) (s : Bool) : ∀ (n k : Nat), l.length - k ≤ n → k ≤ l.length → k ≤ (angleF l s k).1 ∧ (angleF l s k).1 ≤ l.length ∧ ((angleF l s k).2 = true → (angleF l s k).1 < l.length) := by
  intro n
  induction n with
  | zero =>
    intro k h hk
    rw [angleF_end l s k (by omega)]
    simp; omega
  | succ n ih =>
    intro k h hk
    by_cases hlt : k < l.length
    · cases hq : isQuo l[k] with
      | true =>
        have := quotedF_gt l k hlt
        have := ih (quotedF l k).1 (by omega) (by omega)
        rw [angleF_quo l s k hlt hq]; exact ⟨by omega, by omega, this.2.2⟩
      | false =>
        by_cases h2 : l[k] = 62
        · rw [angleF_gt l s k hlt h2]; simp; omega
        · by_cases h3 : l[k] = 60 ∧ s = true
          · obtain ⟨h3, rfl⟩ := h3
            rw [angleF_lt l k hlt h3]; simp; omega
          · have := ih (k + 1) (by omega) (by omega)
            rw [angleF_next l s k hlt hq h2 h3]; exact ⟨by omega, by omega, this.2.2⟩
    · rw [angleF_end l s k hlt]
      simp; omega
set_option maxHeartbeats 400000 in
set_option maxRecDepth 100000 in
theorem LQuote_any (r : Int) (w : World) : Calls Tryz.prog 119 #[.int .i32 r] w fun e w' => e = .returned (.bool (isQuo r)) ∧ w = w' := by
  by_cases h : r = 34
  · subst h
    go_enter Tryz.func119, Tryz.ntmps119
    go_wp2
    go_ret
    exact ⟨rfl, rfl⟩
  · have hb : (r == 34) = false := by simpa using h
    have HE : Hid (isQuo r = (r == 39)) := by rw [Hid, isQuo, hb, Bool.false_or]
    clear h
    go_enter Tryz.func119, Tryz.ntmps119
    go_wp2
    go_ret
    exact ⟨ret_bool HE.out.symm, rfl⟩
set_option maxHeartbeats 1000000 in
set_option maxRecDepth 100000 in
theorem Quoted_any (S : Nat → Prop) (A : Option Addr) (n c : Nat) (l : List Int) (k : Nat) (w : World) (hr : Rd w S 1 A n c (rc l)) (hk : k < l.length) (hl9 : l.length ≤ 1000000000) :
    Calls Tryz.prog 120 #[.slice A n c, .int .i64 k] w fun e w' => e = .returned (.tuple #[.int .i64 (quotedF l k).1, .bool (quotedF l k).2]) ∧ Below w.heap.size w w' := by
  obtain rfl := hr.rlen
  have hle := hr.le
  have hmx : c ≤ 9223372036854775807 := hr.max
  have HR := Lib.hid hr
  have hki : (k : Int) < (l.length : Int) := by omega
  have HT : Hid (quotedF l k = quoF l l[k] (k + 1)) := by rw [Hid, quotedF, getD_at hk]
  have HQ := fun W (h : Below w.heap.size w W) => Lib.hid ((HR.out.below h).rune hk)
  clear hr
  generalize quotedF l k = t at HT ⊢
  generalize l[k] = q at HT HQ
  go_enter Tryz.func120, Tryz.ntmps120
  go_wp2
  go_loopw [6] (fun i wr => ∃ j : Nat, k + 1 ≤ j ∧ j ≤ l.length ∧ i = .int .i64 j ∧ Hid (t = quoF l q j) ∧ Hid (Below w.heap.size w wr)) (fun i _ => l.length - (RowKit.intOf i).toNat)
  case atStart => exact ⟨k + 1, Nat.le_refl _, by omega, by go_num, HT.out, Below.refl _ _⟩
  case round =>
    obtain ⟨j, hj1, hj2, rfl, HJ, HB⟩ := hrel
    by_cases hlt : j < l.length
    · have hji : (j : Int) < (l.length : Int) := by omega
      obtain ⟨b, o, rfl, hc0⟩ := (HR.out.below HB.out).rune hlt
      obtain ⟨b', o', hA, hc1⟩ := (HQ _ HB.out).out
      injection hA with hA
      injection hA with e1 e2
      subst e1 e2
      have HH := Lib.hid (quoF_hit l q j hlt)
      have HM := Lib.hid (quoF_miss l q j hlt)
      generalize l[j] = r at hc0 HH HM
      by_cases hq : r = q
      · have HE := Lib.hid (HJ.out.trans (HH.out hq))
        have hb : (r == q) = true := by simpa using hq
        clear HH HM HJ hq
        go_wp2
        go_quiet (fail)
        go_wp2
        go_ret2
        rw [HE.out]
        exact ⟨rfl, below_drewN HB.out _⟩
      · have HE := Lib.hid (HJ.out.trans (HM.out hq))
        have hb : (r == q) = false := by simpa using hq
        clear HH HM HJ hq
        go_wp2
        go_quiet (fail)
        go_wp2
        go_roundw
        case rel => exact ⟨j + 1, by omega, by omega, by go_num, HE.out, below_drewN HB.out _⟩
        case measure => simp [RowKit.intOf]; omega
    · have hji : ¬ (j : Int) < (l.length : Int) := by omega
      have HE := Lib.hid (HJ.out.trans (quoF_end l q j hlt))
      clear HJ
      go_wp2
      go_ret2
      rw [HE.out]
      exact ⟨rfl, HB.out⟩
set_option maxHeartbeats 2000000 in
set_option maxRecDepth 100000 in
theorem Angle_any (S : Nat → Prop) (A : Option Addr) (n c : Nat) (l : List Int) (k : Nat) (s : Bool) (w : World) (hr : Rd w S 1 A n c (rc l)) (hk : k ≤ l.length) (hl9 : l.length ≤ 1000000000) :
    Calls Tryz.prog 122 #[.slice A n c, .int .i64 k, .bool s] w fun e w' => e = .returned (.tuple #[.int .i64 (angleF l s k).1, .bool (angleF l s k).2]) ∧ Below w.heap.size w w' := by
  obtain rfl := hr.rlen
  have hle := hr.le
  have hmx : c ≤ 9223372036854775807 := hr.max
  have HR := Lib.hid hr
  clear hr
  obtain ⟨t, ht⟩ : ∃ t, t = angleF l s k := ⟨_, rfl⟩
  rw [← ht]
  have HT := Lib.hid ht
  clear ht
  go_enter Tryz.func122, Tryz.ntmps122
  go_wp2
  go_loopw [1] (fun i wr => ∃ j : Nat, j ≤ l.length ∧ i = .int .i64 j ∧ Hid (t = angleF l s j) ∧ Hid (Below w.heap.size w wr)) (fun i _ => l.length - (RowKit.intOf i).toNat)
  case atStart => exact ⟨k, hk, rfl, HT.out, Below.refl _ _⟩
  case round =>
    obtain ⟨j, hj, rfl, HJ, HB⟩ := hrel
    by_cases hlt : j < l.length
    · have hji : (j : Int) < (l.length : Int) := by omega
      obtain ⟨b, o, rfl, hc0⟩ := (HR.out.below HB.out).rune hlt
      have HQT := Lib.hid (LQuote_any l[j])
      have HQD := Lib.hid (Quoted_any S _ l.length c l j _ (HR.out.below HB.out) hlt hl9)
      obtain ⟨hg1, hg2⟩ := quotedF_gt l j hlt
      have H1 := Lib.hid (angleF_quo l s j hlt)
      have H2 := Lib.hid (angleF_gt l s j hlt)
      have H4 := Lib.hid (angleF_next l s j hlt)
      have H3 := Lib.hid (show s = true → l[j] = 60 → angleF l s j = (j, false) from fun h h2 => by subst h; exact angleF_lt l j hlt h2)
      generalize l[j] = r at hc0 HQT H1 H2 H3 H4
      cases hq : isQuo r with
      | true =>
        have HE := Lib.hid (HJ.out.trans (H1.out hq))
        have HQT2 := fun W => Lib.hid (HQT.out W)
        rw [hq] at HQT2
        clear H1 H2 H3 H4 HJ hq HQT
        generalize (quotedF l j).1 = nx at HE HQD hg1 hg2
        generalize (quotedF l j).2 = nb at HQD
        go_wp2_with fail
        refine (HQT2 _).out.mono ?_
        rintro e wx ⟨rfl, rfl⟩
        go_wp2_with fail
        refine HQD.out.mono ?_
        rintro e w2 ⟨rfl, hb2⟩
        have HB2 := Lib.hid (HB.out.trans (hb2.mono HB.out.size))
        clear hb2
        go_wp2
        go_roundw
        case rel => exact ⟨nx, by omega, rfl, HE.out, HB2.out⟩
        case measure => simp [RowKit.intOf]; omega
      | false =>
        have HQT2 := fun W => Lib.hid (HQT.out W)
        rw [hq] at HQT2
        clear HQD hg1 hg2 HQT
        by_cases h62 : r = 62
        · have HE := Lib.hid (HJ.out.trans (H2.out h62))
          subst h62
          clear H1 H2 H3 H4 HJ hq
          go_wp2_with fail
          refine (HQT2 _).out.mono ?_
          rintro e wx ⟨rfl, rfl⟩
          go_wp2
          go_ret2
          rw [HE.out]
          exact ⟨rfl, HB.out⟩
        · have h62b : (r == 62) = false := by simpa using h62
          by_cases h60 : r = 60
          · subst h60
            cases s with
            | true =>
              have HE := Lib.hid (HJ.out.trans (H3.out rfl rfl))
              clear H1 H2 H3 H4 HJ hq h62
              go_wp2_with fail
              refine (HQT2 _).out.mono ?_
              rintro e wx ⟨rfl, rfl⟩
              go_wp2
              go_ret2
              rw [HE.out]
              exact ⟨rfl, HB.out⟩
            | false =>
              have HE := Lib.hid (HJ.out.trans (H4.out hq h62 (by simp)))
              clear H1 H2 H3 H4 HJ hq h62
              go_wp2_with fail
              refine (HQT2 _).out.mono ?_
              rintro e wx ⟨rfl, rfl⟩
              go_wp2
              go_roundw
              case rel => exact ⟨j + 1, by omega, by go_num, HE.out, HB.out⟩
              case measure => simp [RowKit.intOf]; omega
          · have h60b : (r == 60) = false := by simpa using h60
            have HE := Lib.hid (HJ.out.trans (H4.out hq h62 (fun h => h60 h.1)))
            clear H1 H2 H3 H4 HJ hq h62 h60
            go_wp2_with fail
            refine (HQT2 _).out.mono ?_
            rintro e wx ⟨rfl, rfl⟩
            go_wp2
            go_roundw
            case rel => exact ⟨j + 1, by omega, by go_num, HE.out, HB.out⟩
            case measure => simp [RowKit.intOf]; omega
    · have hji : ¬ (j : Int) < (l.length : Int) := by omega
      have HE := Lib.hid (HJ.out.trans (angleF_end l s j hlt))
      clear HJ
      go_wp2
      go_ret2
      rw [HE.out]
      exact ⟨rfl, HB.out⟩
end Go.Proofs.YtaklahcbeldbhaaGreatDoor
namespace Go.Proofs.YtaklahcbeldbhaaGreatDoor
open Go.RowKit Go.Lib
def upToF (l : List Int) (kd k skip : Nat) (bs : List UInt8) : Nat × Nat × Bool := match findF l (min (k + skip) l.length) l.length bs with
  | none => (kd, l.length, false)
  | some j => (kd, j + bs.length, true)
def endGo (l : List Int) (k : Nat) : Nat × Bool := if h : k < l.length then (if l[k] = 62 then (k + 1, true) else if l[k] = 60 then (k, false) else endGo l (k + 1)) else (l.length, false)
termination_by l.length - k
def endTF (l : List Int) (k : Nat) : Nat × Nat × Bool := (10, (endGo l (k + 2)).1, (endGo l (k + 2)).2)
def startTF (l : List Int) (k : Nat) : Nat × Nat × Bool :=
  if (angleF l true (k + 1)).2 = false then (8, (angleF l true (k + 1)).1, false)
  else if l[(angleF l true (k + 1)).1 - 1]? = some 47 then (9, (angleF l true (k + 1)).1 + 1, true) else (8, (angleF l true (k + 1)).1 + 1, true)
theorem endGo_gt (l : List Int) (k : Nat) (h : k < l.length) (hq : l[k] = 62) : endGo l k = (k + 1, true) := by rw [endGo, dif_pos h, if_pos hq]
theorem endGo_lt (l : List Int) (k : Nat) (h : k < l.length) (hq : l[k] = 60) : endGo l k = (k, false) := by rw [endGo, dif_pos h, if_neg (by rw [hq]; decide), if_pos hq]
theorem endGo_next (l : List Int) (k : Nat) (h : k < l.length) (h1 : l[k] ≠ 62) (h2 : l[k] ≠ 60) : endGo l k = endGo l (k + 1) := by rw [endGo, dif_pos h, if_neg h1, if_neg h2]
theorem endGo_end (l : List Int) (k : Nat) (h : ¬ k < l.length) : endGo l k = (l.length, false) := by rw [endGo, dif_neg h]
set_option maxHeartbeats 2000000 in
set_option maxRecDepth 100000 in
theorem UpTo_any (S : Nat → Prop) (A : Option Addr) (n c : Nat) (l : List Int) (kd k skip : Nat) (s : ByteArray) (w : World) (hr : Rd w S 1 A n c (rc l)) (hk : k ≤ l.length) (hsk : skip ≤ 1000) (hl9 : l.length ≤ 1000000000) (hs9 : s.size ≤ 1000) :
    Calls Tryz.prog 108 #[.slice A n c, .int .i64 kd, .int .i64 k, .int .i64 skip, .string s] w fun e w' => e = .returned (tokV (upToF l kd k skip s.data.toList) k) ∧ Below w.heap.size w w' := by
  obtain rfl := hr.rlen
  have hle := hr.le
  have hmx : c ≤ 9223372036854775807 := hr.max
  have HR := Lib.hid hr
  clear hr
  have hm : ∀ ts t W, (Builtin.min_ ts t #[.int .i64 ((k : Int) + (skip : Int)), .int .i64 (l.length : Int)]).run Tryz.prog W = .ok (.int .i64 (min (k + skip) l.length : Nat)) W := fun ts t W => by
    rw [run_min_int2]
    congr 2
    split <;> omega
  have HF := fun W (h : Below w.heap.size w W) => Lib.hid (LFind_any S A l.length c l (min (k + skip) l.length) l.length s W (HR.out.below h) (by omega) (Nat.le_refl _) hl9 (by omega))
  have HT : Hid (upToF l kd k skip s.data.toList = match findF l (min (k + skip) l.length) l.length s.data.toList with
    | none => (kd, l.length, false)
    | some j => (kd, j + s.data.toList.length, true)) := rfl
  have hfl : ∀ j, findF l (min (k + skip) l.length) l.length s.data.toList = some j → j ≤ l.length := fun j h => by
    rw [findF, List.find?_range'_eq_some] at h
    have := List.mem_range'_1.1 h.2.1
    omega
  have HSL := Lib.hid (show s.data.toList.length = s.size by simp)
  generalize upToF l kd k skip s.data.toList = t at HT ⊢
  generalize findF l (min (k + skip) l.length) l.length s.data.toList = q at HF HT hfl
  generalize min (k + skip) l.length = m2 at hm HF
  cases q with
  | none =>
    have HE : Hid (t = (kd, l.length, false)) := HT.out
    clear HT hfl
    go_enter Tryz.func108, Tryz.ntmps108
    go_wp2_with fail
    have HTH0 := Lib.hid (there_lit w #[.int .i64 0, .int .i64 0, .int .i64 0, .bool false] 109)
    have HB0 := Lib.hid (ba w (.cells #[.int .i64 0, .int .i64 0, .int .i64 0, .bool false] 109))
    have HSZ : Hid (w.heap.size < (w.alloc (.cells #[.int .i64 0, .int .i64 0, .int .i64 0, .bool false] 109)).heap.size) := by simp [Hid]
    generalize w.alloc (.cells #[.int .i64 0, .int .i64 0, .int .i64 0, .bool false] 109) = W0 at HTH0 HB0 HSZ
    refine (HF _ HB0.out).out.mono ?_
    rintro e w1 ⟨rfl, hb1⟩
    have HB1 := Lib.hid (HB0.out.trans (hb1.mono HB0.out.size))
    have HTH1 : Hid (w1.there w.heap.size 0 4) := there_below HTH0.out hb1 HSZ.out
    clear hb1 HTH0 HSZ
    have HL9 := Lib.hid (load_struct (P := Tryz.prog) (T := 109) w1 w.heap.size [.int .i64 kd, .int .i64 k, .int .i64 (l.length), .bool false] HTH1.out (by kernel_rfl) Tryz.underlying109 rfl)
    have HB9 := Lib.hid (below_setCells2 HB1.out w.heap.size (Nat.le_refl _) [.int .i64 kd, .int .i64 k, .int .i64 (l.length), .bool false] 0)
    obtain ⟨⟨z0, hz0⟩, hf0⟩ := there_cell HTH1.out 0 (by decide)
    obtain ⟨⟨z1, hz1⟩, hf1⟩ := there_cell HTH1.out 1 (by decide)
    obtain ⟨⟨z2, hz2⟩, hf2⟩ := there_cell HTH1.out 2 (by decide)
    obtain ⟨⟨z3, hz3⟩, hf3⟩ := there_cell HTH1.out 3 (by decide)
    go_wp2
    refine bodyPost_ret (results_cell1 rfl _ rfl HL9.out) rfl ?_
    rw [HE.out]
    exact ⟨by simp [tokV], HB9.out⟩
  | some j =>
    have HE : Hid (t = (kd, j + s.size, true)) := by rw [Hid, ← HSL.out]; exact HT.out
    have hfl := hfl j rfl
    clear HT
    go_enter Tryz.func108, Tryz.ntmps108
    go_wp2_with fail
    have HTH0 := Lib.hid (there_lit w #[.int .i64 0, .int .i64 0, .int .i64 0, .bool false] 109)
    have HB0 := Lib.hid (ba w (.cells #[.int .i64 0, .int .i64 0, .int .i64 0, .bool false] 109))
    have HSZ : Hid (w.heap.size < (w.alloc (.cells #[.int .i64 0, .int .i64 0, .int .i64 0, .bool false] 109)).heap.size) := by simp [Hid]
    generalize w.alloc (.cells #[.int .i64 0, .int .i64 0, .int .i64 0, .bool false] 109) = W0 at HTH0 HB0 HSZ
    refine (HF _ HB0.out).out.mono ?_
    rintro e w1 ⟨rfl, hb1⟩
    have HB1 := Lib.hid (HB0.out.trans (hb1.mono HB0.out.size))
    have HTH1 : Hid (w1.there w.heap.size 0 4) := there_below HTH0.out hb1 HSZ.out
    clear hb1 HTH0 HSZ
    have HL9 := Lib.hid (load_struct (P := Tryz.prog) (T := 109) w1 w.heap.size [.int .i64 kd, .int .i64 k, .int .i64 ((j : Int) + (s.size : Int)), .bool true] HTH1.out (by kernel_rfl) Tryz.underlying109 rfl)
    have HB9 := Lib.hid (below_setCells2 HB1.out w.heap.size (Nat.le_refl _) [.int .i64 kd, .int .i64 k, .int .i64 ((j : Int) + (s.size : Int)), .bool true] 0)
    obtain ⟨⟨z0, hz0⟩, hf0⟩ := there_cell HTH1.out 0 (by decide)
    obtain ⟨⟨z1, hz1⟩, hf1⟩ := there_cell HTH1.out 1 (by decide)
    obtain ⟨⟨z2, hz2⟩, hf2⟩ := there_cell HTH1.out 2 (by decide)
    obtain ⟨⟨z3, hz3⟩, hf3⟩ := there_cell HTH1.out 3 (by decide)
    go_wp2
    refine bodyPost_ret (results_cell1 rfl _ rfl HL9.out) rfl ?_
    rw [HE.out]
    exact ⟨by simp [tokV], HB9.out⟩
set_option maxHeartbeats 2000000 in
set_option maxRecDepth 100000 in
theorem EndT_any (S : Nat → Prop) (A : Option Addr) (n c : Nat) (l : List Int) (k : Nat) (w : World) (hr : Rd w S 1 A n c (rc l)) (hk : k + 2 ≤ l.length) (hl9 : l.length ≤ 1000000000) :
    Calls Tryz.prog 110 #[.slice A n c, .int .i64 k] w fun e w' => e = .returned (tokV (endTF l k) k) ∧ Below w.heap.size w w' := by
  obtain rfl := hr.rlen
  have hle := hr.le
  have hmx : c ≤ 9223372036854775807 := hr.max
  have HR := Lib.hid hr
  clear hr
  obtain ⟨t, ht⟩ : ∃ t, t = endGo l (k + 2) := ⟨_, rfl⟩
  have HT := Lib.hid ht
  have HTT : Hid (endTF l k = (10, t.1, t.2)) := by rw [Hid, ht]; rfl
  clear ht
  go_enter Tryz.func110, Tryz.ntmps110
  go_wp2
  have HTH0 := Lib.hid (there_lit w #[.int .i64 0, .int .i64 0, .int .i64 0, .bool false] 109)
  have HB0 := Lib.hid (ba w (.cells #[.int .i64 0, .int .i64 0, .int .i64 0, .bool false] 109))
  have HSZ : Hid (w.heap.size < (w.alloc (.cells #[.int .i64 0, .int .i64 0, .int .i64 0, .bool false] 109)).heap.size) := by simp [Hid]
  generalize w.alloc (.cells #[.int .i64 0, .int .i64 0, .int .i64 0, .bool false] 109) = W0 at HTH0 HB0 HSZ
  have HR0 := Lib.hid (HR.out.below HB0.out)
  have HTH0 : Hid (W0.there w.heap.size 0 4) := HTH0.out
  go_loopw [5] (fun i wr => wr = W0 ∧ ∃ j : Nat, k + 2 ≤ j ∧ j ≤ l.length ∧ i = .int .i64 j ∧ Hid (t = endGo l j)) (fun i _ => l.length - (RowKit.intOf i).toNat)
  case atStart => exact ⟨rfl, k + 2, Nat.le_refl _, by omega, by go_num, HT.out⟩
  case round =>
    obtain ⟨rfl, j, hj1, hj2, rfl, HJ⟩ := hrel
    by_cases hlt : j < l.length
    · have hji : (j : Int) < (l.length : Int) := by omega
      obtain ⟨b, o, rfl, hc0⟩ := HR0.out.rune hlt
      have H1 := Lib.hid (endGo_gt l j hlt)
      have H2 := Lib.hid (endGo_lt l j hlt)
      have H3 := Lib.hid (endGo_next l j hlt)
      generalize l[j] = r at hc0 H1 H2 H3
      by_cases h62 : r = 62
      · have HE : Hid (endTF l k = (10, j + 1, true)) := by rw [Hid, HTT.out, HJ.out.trans (H1.out h62)]
        subst h62
        clear H1 H2 H3 HJ HTT
        have HL9 := Lib.hid (load_struct (P := Tryz.prog) (T := 109) wr w.heap.size [.int .i64 10, .int .i64 k, .int .i64 ((j : Int) + 1), .bool true] HTH0.out (by kernel_rfl) Tryz.underlying109 rfl)
        have HB9 := Lib.hid (below_setCells2 HB0.out w.heap.size (Nat.le_refl _) [.int .i64 10, .int .i64 k, .int .i64 ((j : Int) + 1), .bool true] 0)
        obtain ⟨⟨z0, hz0⟩, hf0⟩ := there_cell HTH0.out 0 (by decide)
        obtain ⟨⟨z1, hz1⟩, hf1⟩ := there_cell HTH0.out 1 (by decide)
        obtain ⟨⟨z2, hz2⟩, hf2⟩ := there_cell HTH0.out 2 (by decide)
        obtain ⟨⟨z3, hz3⟩, hf3⟩ := there_cell HTH0.out 3 (by decide)
        go_wp2
        refine bodyPost_ret (results_cell1 rfl _ rfl HL9.out) rfl ?_
        rw [HE.out]
        exact ⟨by simp [tokV], HB9.out⟩
      · have h62b : (r == 62) = false := by simpa using h62
        by_cases h60 : r = 60
        · have HE : Hid (endTF l k = (10, j, false)) := by rw [Hid, HTT.out, HJ.out.trans (H2.out h60)]
          subst h60
          clear H1 H2 H3 HJ HTT h62
          have HL9 := Lib.hid (load_struct (P := Tryz.prog) (T := 109) wr w.heap.size [.int .i64 10, .int .i64 k, .int .i64 (j), .bool false] HTH0.out (by kernel_rfl) Tryz.underlying109 rfl)
          have HB9 := Lib.hid (below_setCells2 HB0.out w.heap.size (Nat.le_refl _) [.int .i64 10, .int .i64 k, .int .i64 (j), .bool false] 0)
          obtain ⟨⟨z0, hz0⟩, hf0⟩ := there_cell HTH0.out 0 (by decide)
          obtain ⟨⟨z1, hz1⟩, hf1⟩ := there_cell HTH0.out 1 (by decide)
          obtain ⟨⟨z2, hz2⟩, hf2⟩ := there_cell HTH0.out 2 (by decide)
          obtain ⟨⟨z3, hz3⟩, hf3⟩ := there_cell HTH0.out 3 (by decide)
          go_wp2
          refine bodyPost_ret (results_cell1 rfl _ rfl HL9.out) rfl ?_
          rw [HE.out]
          exact ⟨by simp [tokV], HB9.out⟩
        · have h60b : (r == 60) = false := by simpa using h60
          have HN := Lib.hid (HJ.out.trans (H3.out h62 h60))
          clear H1 H2 H3 HJ h62 h60
          go_wp2
          go_roundw
          case rel => exact ⟨trivial, j + 1, by omega, by omega, by go_num, HN.out⟩
          case measure => simp [RowKit.intOf]; omega
    · have hji : ¬ (j : Int) < (l.length : Int) := by omega
      have HE : Hid (endTF l k = (10, l.length, false)) := by rw [Hid, HTT.out, HJ.out.trans (endGo_end l j hlt)]
      clear HJ HTT
      have HL9 := Lib.hid (load_struct (P := Tryz.prog) (T := 109) wr w.heap.size [.int .i64 10, .int .i64 k, .int .i64 (l.length), .bool false] HTH0.out (by kernel_rfl) Tryz.underlying109 rfl)
      have HB9 := Lib.hid (below_setCells2 HB0.out w.heap.size (Nat.le_refl _) [.int .i64 10, .int .i64 k, .int .i64 (l.length), .bool false] 0)
      obtain ⟨⟨z0, hz0⟩, hf0⟩ := there_cell HTH0.out 0 (by decide)
      obtain ⟨⟨z1, hz1⟩, hf1⟩ := there_cell HTH0.out 1 (by decide)
      obtain ⟨⟨z2, hz2⟩, hf2⟩ := there_cell HTH0.out 2 (by decide)
      obtain ⟨⟨z3, hz3⟩, hf3⟩ := there_cell HTH0.out 3 (by decide)
      go_wp2
      refine bodyPost_ret (results_cell1 rfl _ rfl HL9.out) rfl ?_
      rw [HE.out]
      exact ⟨by simp [tokV], HB9.out⟩
set_option maxHeartbeats 2000000 in
set_option maxRecDepth 100000 in
theorem StartT_any (S : Nat → Prop) (A : Option Addr) (n c : Nat) (l : List Int) (k : Nat) (w : World) (hr : Rd w S 1 A n c (rc l)) (hk : k < l.length) (hl9 : l.length ≤ 1000000000) :
    Calls Tryz.prog 111 #[.slice A n c, .int .i64 k] w fun e w' => e = .returned (tokV (startTF l k) k) ∧ Below w.heap.size w w' := by
  obtain rfl := hr.rlen
  have hle := hr.le
  have hmx : c ≤ 9223372036854775807 := hr.max
  have HR := Lib.hid hr
  have HAN : ∀ W, Below w.heap.size w W → Hid (Calls Tryz.prog 122 #[.slice A l.length c, .int .i64 ((k : Int) + 1), .bool true] W fun e w' => e = .returned (.tuple #[.int .i64 (angleF l true (k + 1)).1, .bool (angleF l true (k + 1)).2]) ∧ Below W.heap.size W w') := fun W h => by
    rw [show ((k : Int) + 1) = ((k + 1 : Nat) : Int) by omega]
    exact Angle_any S A l.length c l (k + 1) true W (HR.out.below h) (by omega) hl9
  obtain ⟨ha1, ha2, ha3⟩ := angleF_range l true l.length (k + 1) (by omega) (by omega)
  have HT : Hid (startTF l k = if (angleF l true (k + 1)).2 = false then (8, (angleF l true (k + 1)).1, false)
    else if l[(angleF l true (k + 1)).1 - 1]? = some 47 then (9, (angleF l true (k + 1)).1 + 1, true) else (8, (angleF l true (k + 1)).1 + 1, true)) := rfl
  clear hr
  generalize (angleF l true (k + 1)).1 = j at HAN HT ha1 ha2 ha3
  generalize (angleF l true (k + 1)).2 = b at HAN HT ha3
  go_enter Tryz.func111, Tryz.ntmps111
  go_wp2_with fail
  have HTH0 := Lib.hid (there_lit w #[.int .i64 0, .int .i64 0, .int .i64 0, .bool false] 109)
  have HB0 := Lib.hid (ba w (.cells #[.int .i64 0, .int .i64 0, .int .i64 0, .bool false] 109))
  have HSZ : Hid (w.heap.size < (w.alloc (.cells #[.int .i64 0, .int .i64 0, .int .i64 0, .bool false] 109)).heap.size) := by simp [Hid]
  generalize w.alloc (.cells #[.int .i64 0, .int .i64 0, .int .i64 0, .bool false] 109) = W0 at HTH0 HB0 HSZ
  refine (HAN _ HB0.out).out.mono ?_
  rintro e w1 ⟨rfl, hb1⟩
  have HB1 := Lib.hid (HB0.out.trans (hb1.mono HB0.out.size))
  have HTH1 : Hid (w1.there w.heap.size 0 4) := there_below HTH0.out hb1 HSZ.out
  clear hb1 HTH0 HSZ HB0 HAN
  cases b with
  | false =>
    have HE : Hid (startTF l k = (8, j, false)) := HT.out
    clear HT ha3
    have HL9 := Lib.hid (load_struct (P := Tryz.prog) (T := 109) w1 w.heap.size [.int .i64 8, .int .i64 k, .int .i64 (j), .bool false] HTH1.out (by kernel_rfl) Tryz.underlying109 rfl)
    have HB9 := Lib.hid (below_setCells2 HB1.out w.heap.size (Nat.le_refl _) [.int .i64 8, .int .i64 k, .int .i64 (j), .bool false] 0)
    obtain ⟨⟨z0, hz0⟩, hf0⟩ := there_cell HTH1.out 0 (by decide)
    obtain ⟨⟨z1, hz1⟩, hf1⟩ := there_cell HTH1.out 1 (by decide)
    obtain ⟨⟨z2, hz2⟩, hf2⟩ := there_cell HTH1.out 2 (by decide)
    obtain ⟨⟨z3, hz3⟩, hf3⟩ := there_cell HTH1.out 3 (by decide)
    go_wp2
    refine bodyPost_ret (results_cell1 rfl _ rfl HL9.out) rfl ?_
    rw [HE.out]
    exact ⟨by simp [tokV], HB9.out⟩
  | true =>
    have ha3 := ha3 rfl
    have hj1 : j - 1 < l.length := by omega
    have hj1i : (j : Int) - 1 < (l.length : Int) := by omega
    have hj0i : (0 : Int) ≤ (j : Int) - 1 := by omega
    obtain ⟨b, o, rfl, hc0⟩ := (HR.out.below HB1.out).rune hj1
    have HT2 : Hid (startTF l k = if l[j - 1] = 47 then (9, j + 1, true) else (8, j + 1, true)) := by
      rw [Hid, HT.out, if_neg (by simp), List.getElem?_eq_getElem hj1]
      simp only [Option.some.injEq]
    generalize l[j - 1] = r at hc0 HT2
    clear HT
    by_cases h47 : r = 47
    · have HE : Hid (startTF l k = (9, j + 1, true)) := by rw [Hid, HT2.out, if_pos h47]
      subst h47
      clear HT2
      have HL9 := Lib.hid (load_struct (P := Tryz.prog) (T := 109) w1 w.heap.size [.int .i64 9, .int .i64 k, .int .i64 ((j : Int) + 1), .bool true] HTH1.out (by kernel_rfl) Tryz.underlying109 rfl)
      have HB9 := Lib.hid (below_setCells2 HB1.out w.heap.size (Nat.le_refl _) [.int .i64 9, .int .i64 k, .int .i64 ((j : Int) + 1), .bool true] 0)
      obtain ⟨⟨z0, hz0⟩, hf0⟩ := there_cell HTH1.out 0 (by decide)
      obtain ⟨⟨z1, hz1⟩, hf1⟩ := there_cell HTH1.out 1 (by decide)
      obtain ⟨⟨z2, hz2⟩, hf2⟩ := there_cell HTH1.out 2 (by decide)
      obtain ⟨⟨z3, hz3⟩, hf3⟩ := there_cell HTH1.out 3 (by decide)
      go_wp2
      refine bodyPost_ret (results_cell1 rfl _ rfl HL9.out) rfl ?_
      rw [HE.out]
      exact ⟨by simp [tokV], HB9.out⟩
    · have HE : Hid (startTF l k = (8, j + 1, true)) := by rw [Hid, HT2.out, if_neg h47]
      have h47b : (r == 47) = false := by simpa using h47
      clear HT2 h47
      have HL9 := Lib.hid (load_struct (P := Tryz.prog) (T := 109) w1 w.heap.size [.int .i64 8, .int .i64 k, .int .i64 ((j : Int) + 1), .bool true] HTH1.out (by kernel_rfl) Tryz.underlying109 rfl)
      have HB9 := Lib.hid (below_setCells2 HB1.out w.heap.size (Nat.le_refl _) [.int .i64 8, .int .i64 k, .int .i64 ((j : Int) + 1), .bool true] 0)
      obtain ⟨⟨z0, hz0⟩, hf0⟩ := there_cell HTH1.out 0 (by decide)
      obtain ⟨⟨z1, hz1⟩, hf1⟩ := there_cell HTH1.out 1 (by decide)
      obtain ⟨⟨z2, hz2⟩, hf2⟩ := there_cell HTH1.out 2 (by decide)
      obtain ⟨⟨z3, hz3⟩, hf3⟩ := there_cell HTH1.out 3 (by decide)
      go_wp2
      refine bodyPost_ret (results_cell1 rfl _ rfl HL9.out) rfl ?_
      rw [HE.out]
      exact ⟨by simp [tokV], HB9.out⟩
end Go.Proofs.YtaklahcbeldbhaaGreatDoor
namespace Go.Proofs.YtaklahcbeldbhaaGreatDoor
open Go.RowKit Go.Lib
theorem findF_le (l : List Int) (k t : Nat) (bs : List UInt8) (j : Nat) (h : findF l k t bs = some j) : k ≤ j ∧ j < t + 1 - bs.length := by
  rw [findF, List.find?_range'_eq_some] at h
  have := List.mem_range'_1.1 h.2.1
  omega
theorem upToF_range (l : List Int) (kd k skip : Nat) (bs : List UInt8) (hk : k < l.length) (hb : 0 < bs.length) : k < (upToF l kd k skip bs).2.1 ∧ (upToF l kd k skip bs).2.1 ≤ l.length := by
  unfold upToF
  cases h : findF l (min (k + skip) l.length) l.length bs with
  | none => simp only; omega
  | some j =>
    have := findF_le l _ _ bs j h
    simp only; omega
def declF (l : List Int) (k : Nat) : Nat × Bool :=
  if startsF l k [60, 33, 45, 45] = true then ((upToF l 4 k 4 [45, 45, 62]).2.1, (upToF l 4 k 4 [45, 45, 62]).2.2)
  else if startsF l k [60, 63] = true then ((upToF l 5 k 2 [63, 62]).2.1, (upToF l 5 k 2 [63, 62]).2.2)
  else if l.getD k 0 = 60 then (min ((angleF l false k).1 + 1) l.length, (angleF l false k).2)
  else (k + 1, true)
theorem declF_range (l : List Int) (k : Nat) (hk : k < l.length) : k < (declF l k).1 ∧ (declF l k).1 ≤ l.length := by
  unfold declF
  split
  · exact upToF_range l 4 k 4 _ hk (by decide)
  · split
    · exact upToF_range l 5 k 2 _ hk (by decide)
    · split
      · have := angleF_range l false l.length k (by omega) (by omega)
        simp only; omega
      · simp only; omega
def subGo (l : List Int) (k : Nat) (ok : Bool) : Nat × Bool :=
  if h : k < l.length ∧ ok = true then (if l[k]'h.1 = 93 then (k + 1, true) else subGo l (declF l k).1 (declF l k).2) else (l.length, false)
termination_by l.length - k
decreasing_by
  have := declF_range l k h.1; omega
theorem subGo_hit (l : List Int) (k : Nat) (h : k < l.length) (hq : l[k] = 93) : subGo l k true = (k + 1, true) := by rw [subGo, dif_pos ⟨h, rfl⟩, if_pos hq]
theorem subGo_next (l : List Int) (k : Nat) (h : k < l.length) (hq : l[k] ≠ 93) : subGo l k true = subGo l (declF l k).1 (declF l k).2 := by
  conv => lhs; rw [subGo]
  rw [dif_pos ⟨h, rfl⟩, if_neg hq]
theorem subGo_end (l : List Int) (k : Nat) (ok : Bool) (h : ¬ (k < l.length ∧ ok = true)) : subGo l k ok = (l.length, false) := by rw [subGo, dif_neg h]
theorem subGo_range (l : List Int) : ∀ (n k : Nat) (ok : Bool), l.length - k ≤ n → k ≤ l.length → (k < (subGo l k ok).1 ∨ (subGo l k ok).1 = l.length) ∧ (subGo l k ok).1 ≤ l.length := by
  intro n
  induction n with
  | zero =>
    intro k ok h hk
    rw [subGo_end l k ok (by omega)]
    simp
  | succ n ih =>
    intro k ok h hk
    by_cases hlt : k < l.length ∧ ok = true
    · obtain ⟨hlt, rfl⟩ := hlt
      by_cases hq : l[k] = 93
      · rw [subGo_hit l k hlt hq]; simp only; omega
      · have := declF_range l k hlt
        have := ih (declF l k).1 (declF l k).2 (by omega) (by omega)
        rw [subGo_next l k hlt hq]; omega
    · rw [subGo_end l k ok hlt]; simp
def subF (l : List Int) (k : Nat) : Nat × Bool := subGo l (k + 1) true
set_option maxHeartbeats 2000000 in
set_option maxRecDepth 100000 in
theorem Declared_any (S : Nat → Prop) (A : Option Addr) (n c : Nat) (l : List Int) (k : Nat) (w : World) (hr : Rd w S 1 A n c (rc l)) (hk : k < l.length) (hl9 : l.length ≤ 1000000000) :
    Calls Tryz.prog 126 #[.slice A n c, .int .i64 k] w fun e w' => e = .returned (.tuple #[.int .i64 (declF l k).1, .bool (declF l k).2]) ∧ Below w.heap.size w w' := by
  obtain rfl := hr.rlen
  have hle := hr.le
  have hmx : c ≤ 9223372036854775807 := hr.max
  have HR := Lib.hid hr
  have HS1 : ∀ W, Below w.heap.size w W → Hid (Calls Tryz.prog 105 #[.slice A l.length c, .int .i64 k, .string ⟨#[60, 33, 45, 45]⟩] W fun e w' => e = .returned (.bool (startsF l k [60, 33, 45, 45])) ∧ Below W.heap.size W w') :=
    fun W h => Starts_any S A l.length c l k ⟨#[60, 33, 45, 45]⟩ W (HR.out.below h) (by omega) hl9 (by decide)
  have HS2 : ∀ W, Below w.heap.size w W → Hid (Calls Tryz.prog 105 #[.slice A l.length c, .int .i64 k, .string ⟨#[60, 63]⟩] W fun e w' => e = .returned (.bool (startsF l k [60, 63])) ∧ Below W.heap.size W w') :=
    fun W h => Starts_any S A l.length c l k ⟨#[60, 63]⟩ W (HR.out.below h) (by omega) hl9 (by decide)
  have HU1 : ∀ W, Below w.heap.size w W → Hid (Calls Tryz.prog 108 #[.slice A l.length c, .int .i64 4, .int .i64 k, .int .i64 4, .string ⟨#[45, 45, 62]⟩] W fun e w' => e = .returned (tokV (upToF l 4 k 4 [45, 45, 62]) k) ∧ Below W.heap.size W w') :=
    fun W h => UpTo_any S A l.length c l 4 k 4 ⟨#[45, 45, 62]⟩ W (HR.out.below h) (by omega) (by decide) hl9 (by decide)
  have HU2 : ∀ W, Below w.heap.size w W → Hid (Calls Tryz.prog 108 #[.slice A l.length c, .int .i64 5, .int .i64 k, .int .i64 2, .string ⟨#[63, 62]⟩] W fun e w' => e = .returned (tokV (upToF l 5 k 2 [63, 62]) k) ∧ Below W.heap.size W w') :=
    fun W h => UpTo_any S A l.length c l 5 k 2 ⟨#[63, 62]⟩ W (HR.out.below h) (by omega) (by decide) hl9 (by decide)
  have HAN := fun W (h : Below w.heap.size w W) => Lib.hid (Angle_any S A l.length c l k false W (HR.out.below h) (by omega) hl9)
  obtain ⟨ha1, ha2, _⟩ := angleF_range l false l.length k (by omega) (by omega)
  have HT : Hid (declF l k = if startsF l k [60, 33, 45, 45] = true then ((upToF l 4 k 4 [45, 45, 62]).2.1, (upToF l 4 k 4 [45, 45, 62]).2.2)
    else if startsF l k [60, 63] = true then ((upToF l 5 k 2 [63, 62]).2.1, (upToF l 5 k 2 [63, 62]).2.2)
    else if l[k] = 60 then (min ((angleF l false k).1 + 1) l.length, (angleF l false k).2) else (k + 1, true)) := by rw [Hid, declF, getD_at hk]
  have HCK := fun W (h : Below w.heap.size w W) => Lib.hid ((HR.out.below h).rune hk)
  clear hr
  have hki : (k : Int) < (l.length : Int) := by omega
  generalize declF l k = t at HT ⊢
  generalize startsF l k [60, 33, 45, 45] = s1 at HS1 HT
  generalize startsF l k [60, 63] = s2 at HS2 HT
  generalize upToF l 4 k 4 [45, 45, 62] = u1 at HU1 HT
  generalize upToF l 5 k 2 [63, 62] = u2 at HU2 HT
  generalize (angleF l false k).1 = aj at HAN HT ha1 ha2
  generalize (angleF l false k).2 = ab at HAN HT
  generalize l[k] = r at HCK HT
  obtain ⟨k1, t1, w1b⟩ := u1
  obtain ⟨k2, t2, w2b⟩ := u2
  have HU1 : ∀ W, Below w.heap.size w W → Hid (Calls Tryz.prog 108 #[.slice A l.length c, .int .i64 4, .int .i64 k, .int .i64 4, .string ⟨#[45, 45, 62]⟩] W fun e w' => e = .returned (.agg #[.int .i64 k1, .int .i64 k, .int .i64 t1, .bool w1b]) ∧ Below W.heap.size W w') := HU1
  have HU2 : ∀ W, Below w.heap.size w W → Hid (Calls Tryz.prog 108 #[.slice A l.length c, .int .i64 5, .int .i64 k, .int .i64 2, .string ⟨#[63, 62]⟩] W fun e w' => e = .returned (.agg #[.int .i64 k2, .int .i64 k, .int .i64 t2, .bool w2b]) ∧ Below W.heap.size W w') := HU2
  have hm : ∀ ts t W, (Builtin.min_ ts t #[.int .i64 ((aj : Int) + 1), .int .i64 (l.length : Int)]).run Tryz.prog W = .ok (.int .i64 (min (aj + 1) l.length : Nat)) W := fun ts t W => by
    rw [run_min_int2]
    congr 2
    split <;> omega
  go_enter Tryz.func126, Tryz.ntmps126
  go_wp2_with fail
  refine (HS1 _ (Below.refl _ _)).out.mono ?_
  rintro e v1 ⟨rfl, hb1⟩
  have HB1 := Lib.hid hb1
  clear hb1 HS1
  cases s1 with
  | true =>
    have HE : Hid (t = (t1, w1b)) := HT.out
    clear HT
    go_wp2_with fail
    refine (HU1 _ HB1.out).out.mono ?_
    rintro e v2 ⟨rfl, hb2⟩
    have HB2 := Lib.hid (bt HB1.out hb2)
    clear hb2
    go_wp2
    go_quiet (fail)
    go_wp2
    go_ret2
    rw [HE.out]
    exact ⟨rfl, below_drewN (bt HB2.out (ba _ _)) _⟩
  | false =>
    go_wp2_with fail
    refine (HS2 _ HB1.out).out.mono ?_
    rintro e v2 ⟨rfl, hb2⟩
    have HB2 := Lib.hid (bt HB1.out hb2)
    clear hb2
    cases s2 with
    | true =>
      have HE : Hid (t = (t2, w2b)) := HT.out
      clear HT
      go_wp2_with fail
      refine (HU2 _ HB2.out).out.mono ?_
      rintro e v3 ⟨rfl, hb3⟩
      have HB3 := Lib.hid (bt HB2.out hb3)
      clear hb3
      go_wp2
      go_quiet (fail)
      go_wp2
      go_ret2
      rw [HE.out]
      exact ⟨rfl, below_drewN (bt HB3.out (ba _ _)) _⟩
    | false =>
      obtain ⟨b, o, rfl, hc0⟩ := (HCK _ HB2.out).out
      by_cases h60 : r = 60
      · have HE : Hid (t = (min (aj + 1) l.length, ab)) := by rw [Hid, HT.out]; simp [h60]
        subst h60
        clear HT HCK
        generalize min (aj + 1) l.length = m2 at hm HE
        go_wp2_with fail
        refine (HAN _ HB2.out).out.mono ?_
        rintro e v3 ⟨rfl, hb3⟩
        have HB3 := Lib.hid (bt HB2.out hb3)
        clear hb3
        go_wp2
        go_ret2
        rw [HE.out]
        exact ⟨rfl, HB3.out⟩
      · have HE : Hid (t = (k + 1, true)) := by rw [Hid, HT.out]; simp [h60]
        have h60b : (r == 60) = false := by simpa using h60
        clear HT HCK h60
        go_wp2
        go_ret2
        rw [HE.out]
        exact ⟨by simp, HB2.out⟩
set_option maxHeartbeats 2000000 in
set_option maxRecDepth 100000 in
theorem Subset_any (S : Nat → Prop) (A : Option Addr) (n c : Nat) (l : List Int) (k : Nat) (w : World) (hr : Rd w S 1 A n c (rc l)) (hk : k < l.length) (hl9 : l.length ≤ 1000000000) :
    Calls Tryz.prog 121 #[.slice A n c, .int .i64 k] w fun e w' => e = .returned (.tuple #[.int .i64 (subF l k).1, .bool (subF l k).2]) ∧ Below w.heap.size w w' := by
  obtain rfl := hr.rlen
  have hle := hr.le
  have hmx : c ≤ 9223372036854775807 := hr.max
  have HR := Lib.hid hr
  clear hr
  have HT : Hid (subF l k = subGo l (k + 1) true) := rfl
  generalize subF l k = t at HT ⊢
  go_enter Tryz.func121, Tryz.ntmps121
  go_wp2
  go_loopw [1, 6] (fun i o wr => ∃ (j : Nat) (ok : Bool), j ≤ l.length ∧ i = .int .i64 j ∧ o = .bool ok ∧ Hid (t = subGo l j ok) ∧ Hid (Below w.heap.size w wr)) (fun i _ _ => l.length - (RowKit.intOf i).toNat)
  case atStart => exact ⟨k + 1, true, by omega, by go_num, rfl, HT.out, Below.refl _ _⟩
  case round =>
    obtain ⟨j, ok, hj, rfl, rfl, HJ, HB⟩ := hrel
    by_cases hlt : j < l.length
    · have hji : (j : Int) < (l.length : Int) := by omega
      cases ok with
      | true =>
        obtain ⟨b, o, rfl, hc0⟩ := (HR.out.below HB.out).rune hlt
        have H1 := Lib.hid (subGo_hit l j hlt)
        have H2 := Lib.hid (subGo_next l j hlt)
        have HDC := Lib.hid (Declared_any S _ l.length c l j _ (HR.out.below HB.out) hlt hl9)
        obtain ⟨hd1, hd2⟩ := declF_range l j hlt
        generalize l[j] = r at hc0 H1 H2
        generalize (declF l j).1 = dj at H2 HDC hd1 hd2
        generalize (declF l j).2 = db at H2 HDC
        by_cases h93 : r = 93
        · have HE := Lib.hid (HJ.out.trans (H1.out h93))
          subst h93
          clear H1 H2 HJ HDC
          go_wp2
          go_ret2
          rw [HE.out]
          exact ⟨by simp, HB.out⟩
        · have HE := Lib.hid (HJ.out.trans (H2.out h93))
          have h93b : (r == 93) = false := by simpa using h93
          clear H1 H2 HJ h93
          go_wp2_with fail
          refine HDC.out.mono ?_
          rintro e v2 ⟨rfl, hb2⟩
          have HB2 := Lib.hid (HB.out.trans (hb2.mono HB.out.size))
          clear hb2
          go_wp2
          go_roundw
          case rel => exact ⟨dj, db, by omega, rfl, rfl, HE.out, HB2.out⟩
          case measure => simp [RowKit.intOf]; omega
      | false =>
        have HE := Lib.hid (HJ.out.trans (subGo_end l j false (by simp)))
        clear HJ
        go_wp2
        go_ret2
        rw [HE.out]
        exact ⟨rfl, HB.out⟩
    · have hji : ¬ (j : Int) < (l.length : Int) := by omega
      have HE := Lib.hid (HJ.out.trans (subGo_end l j ok (fun h => hlt h.1)))
      clear HJ
      go_wp2
      go_ret2
      rw [HE.out]
      exact ⟨rfl, HB.out⟩
end Go.Proofs.YtaklahcbeldbhaaGreatDoor
namespace Go.Proofs.YtaklahcbeldbhaaGreatDoor
open Go.RowKit Go.Lib
theorem subF_range (l : List Int) (k : Nat) (hk : k < l.length) : k < (subF l k).1 ∧ (subF l k).1 ≤ l.length := by
  have := subGo_range l l.length (k + 1) true (by omega) (by omega)
  unfold subF; omega
def docGo (l : List Int) (k : Nat) (ok : Bool) : Nat × Bool :=
  if h : k < l.length ∧ ok = true then
    (if l[k]'h.1 = 62 then (k + 1, true) else if isQuo (l[k]'h.1) then docGo l (quotedF l k).1 (quotedF l k).2 else if l[k]'h.1 = 91 then docGo l (subF l k).1 (subF l k).2 else docGo l (k + 1) true)
  else (l.length, false)
termination_by l.length - k
decreasing_by
  · have := quotedF_gt l k h.1; omega
  · have := subF_range l k h.1; omega
  · omega
theorem docGo_end (l : List Int) (k : Nat) (ok : Bool) (h : ¬ (k < l.length ∧ ok = true)) : docGo l k ok = (l.length, false) := by rw [docGo, dif_neg h]
theorem docGo_hit (l : List Int) (k : Nat) (h : k < l.length) (hq : l[k] = 62) : docGo l k true = (k + 1, true) := by rw [docGo, dif_pos ⟨h, rfl⟩, if_pos hq]
theorem docGo_quo (l : List Int) (k : Nat) (h : k < l.length) (h1 : l[k] ≠ 62) (hq : isQuo l[k] = true) : docGo l k true = docGo l (quotedF l k).1 (quotedF l k).2 := by
  conv => lhs; rw [docGo]
  rw [dif_pos ⟨h, rfl⟩, if_neg h1, if_pos hq]
theorem docGo_sub (l : List Int) (k : Nat) (h : k < l.length) (hq : l[k] = 91) : docGo l k true = docGo l (subF l k).1 (subF l k).2 := by
  conv => lhs; rw [docGo]
  rw [dif_pos ⟨h, rfl⟩, if_neg (by rw [hq]; decide), if_neg (by rw [hq]; decide), if_pos hq]
theorem docGo_next (l : List Int) (k : Nat) (h : k < l.length) (h1 : l[k] ≠ 62) (h2 : isQuo l[k] = false) (h3 : l[k] ≠ 91) : docGo l k true = docGo l (k + 1) true := by
  conv => lhs; rw [docGo]
  rw [dif_pos ⟨h, rfl⟩, if_neg h1, if_neg (by simp [h2]), if_neg h3]
def docTF (l : List Int) (k : Nat) : Nat × Nat × Bool := (7, (docGo l (k + 9) true).1, (docGo l (k + 9) true).2)
def markupF (l : List Int) (k : Nat) : Nat × Nat × Bool :=
  if startsF l k [60, 33, 45, 45] = true then upToF l 4 k 4 [45, 45, 62]
  else if startsF l k [60, 33, 91, 67, 68, 65, 84, 65, 91] = true then upToF l 6 k 9 [93, 93, 62]
  else if startsF l k [60, 63] = true then upToF l 5 k 2 [63, 62]
  else if startsF l k [60, 33, 68, 79, 67, 84, 89, 80, 69] = true then docTF l k
  else if startsF l k [60, 47] = true then endTF l k
  else if 0 < leadF l (k + 1) then startTF l k
  else (11, k + 1, false)
def isPlain (r : Int) : Bool := r != 60 && (r != 38 && r != -1)
def nextTF (l : List Int) (k : Nat) : Nat × Nat × Bool :=
  if l.getD k 0 = 60 then markupF l k else if l.getD k 0 = 38 then refF l k else if l.getD k 0 = -1 then (11, k + 1, false)
  else (1, k + ((l.drop k).takeWhile isPlain).length, true)
set_option maxHeartbeats 4000000 in
set_option maxRecDepth 100000 in
theorem Doctypes_any (S : Nat → Prop) (A : Option Addr) (n c : Nat) (l : List Int) (k : Nat) (w : World) (hr : Rd w S 1 A n c (rc l)) (hk : k + 9 ≤ l.length) (hl9 : l.length ≤ 1000000000) :
    Calls Tryz.prog 109 #[.slice A n c, .int .i64 k] w fun e w' => e = .returned (tokV (docTF l k) k) ∧ Below w.heap.size w w' := by
  obtain rfl := hr.rlen
  have hle := hr.le
  have hmx : c ≤ 9223372036854775807 := hr.max
  have HR := Lib.hid hr
  clear hr
  obtain ⟨t, ht⟩ : ∃ t, t = docGo l (k + 9) true := ⟨_, rfl⟩
  have HT := Lib.hid ht
  have HTT : Hid (docTF l k = (7, t.1, t.2)) := by rw [Hid, ht]; rfl
  clear ht
  go_enter Tryz.func109, Tryz.ntmps109
  go_wp2
  have HTH0 := Lib.hid (there_lit w #[.int .i64 0, .int .i64 0, .int .i64 0, .bool false] 109)
  have HB0 := Lib.hid (ba w (.cells #[.int .i64 0, .int .i64 0, .int .i64 0, .bool false] 109))
  have HSZ : Hid (w.heap.size < (w.alloc (.cells #[.int .i64 0, .int .i64 0, .int .i64 0, .bool false] 109)).heap.size) := by simp [Hid]
  generalize w.alloc (.cells #[.int .i64 0, .int .i64 0, .int .i64 0, .bool false] 109) = W0 at HTH0 HB0 HSZ
  have HTH0 : Hid (W0.there w.heap.size 0 4) := HTH0.out
  go_loopw [5, 6] (fun o i wr => ∃ (j : Nat) (ok : Bool), j ≤ l.length ∧ i = .int .i64 j ∧ o = .bool ok ∧ Hid (t = docGo l j ok) ∧ Hid (Below w.heap.size w wr) ∧ Hid (wr.there w.heap.size 0 4) ∧ Hid (w.heap.size < wr.heap.size)) (fun _ i _ => l.length - (RowKit.intOf i).toNat)
  case atStart => exact ⟨k + 9, true, by omega, by go_num, rfl, HT.out, HB0.out, HTH0.out, HSZ.out⟩
  case round =>
    obtain ⟨j, ok, hj, rfl, rfl, HJ, HB, HTH, HLT⟩ := hrel
    by_cases hlt : j < l.length
    · have hji : (j : Int) < (l.length : Int) := by omega
      cases ok with
      | true =>
        obtain ⟨b, o, rfl, hc0⟩ := (HR.out.below HB.out).rune hlt
        have H1 := Lib.hid (docGo_hit l j hlt)
        have H2 := Lib.hid (docGo_quo l j hlt)
        have H3 := Lib.hid (docGo_sub l j hlt)
        have H4 := Lib.hid (docGo_next l j hlt)
        have HQT := Lib.hid (LQuote_any l[j])
        have HQD := Lib.hid (Quoted_any S _ l.length c l j _ (HR.out.below HB.out) hlt hl9)
        have HSB := Lib.hid (Subset_any S _ l.length c l j _ (HR.out.below HB.out) hlt hl9)
        obtain ⟨hg1, hg2⟩ := quotedF_gt l j hlt
        obtain ⟨hs1, hs2⟩ := subF_range l j hlt
        generalize (quotedF l j).1 = qj at HQD H2 hg1 hg2
        generalize (quotedF l j).2 = qb at HQD H2
        generalize (subF l j).1 = sj at HSB H3 hs1 hs2
        generalize (subF l j).2 = sb at HSB H3
        generalize l[j] = r at hc0 HQT H1 H2 H3 H4
        by_cases h62 : r = 62
        · have HE : Hid (docTF l k = (7, j + 1, true)) := by rw [Hid, HTT.out, HJ.out.trans (H1.out h62)]
          subst h62
          clear H1 H2 H3 H4 HJ HTT HQD HSB HQT
          have HL9 := Lib.hid (load_struct (P := Tryz.prog) (T := 109) wr w.heap.size [.int .i64 7, .int .i64 k, .int .i64 ((j : Int) + 1), .bool true] HTH.out (by kernel_rfl) Tryz.underlying109 rfl)
          have HB9 := Lib.hid (below_setCells2 HB.out w.heap.size (Nat.le_refl _) [.int .i64 7, .int .i64 k, .int .i64 ((j : Int) + 1), .bool true] 0)
          obtain ⟨⟨z0, hz0⟩, hf0⟩ := there_cell HTH.out 0 (by decide)
          obtain ⟨⟨z1, hz1⟩, hf1⟩ := there_cell HTH.out 1 (by decide)
          obtain ⟨⟨z2, hz2⟩, hf2⟩ := there_cell HTH.out 2 (by decide)
          obtain ⟨⟨z3, hz3⟩, hf3⟩ := there_cell HTH.out 3 (by decide)
          go_wp2
          refine bodyPost_ret (results_cell1 rfl _ rfl HL9.out) rfl ?_
          rw [HE.out]
          exact ⟨by simp [tokV], HB9.out⟩
        · have h62b : (r == 62) = false := by simpa using h62
          have HQT2 := fun W => Lib.hid (HQT.out W)
          cases hq : isQuo r with
          | true =>
            have HN := Lib.hid (HJ.out.trans (H2.out h62 hq))
            rw [hq] at HQT2
            clear H1 H2 H3 H4 HJ HSB HQT h62 hq
            go_wp2_with fail
            refine (HQT2 _).out.mono ?_
            rintro e wx ⟨rfl, rfl⟩
            go_wp2_with fail
            refine HQD.out.mono ?_
            rintro e v2 ⟨rfl, hb2⟩
            have HB2 := Lib.hid (HB.out.trans (hb2.mono HB.out.size))
            have HTH2 := Lib.hid (there_below HTH.out hb2 HLT.out)
            have HLT2 := Lib.hid (Nat.lt_of_lt_of_le HLT.out hb2.size)
            clear hb2
            go_wp2
            go_roundw
            case rel => exact ⟨qj, qb, by omega, rfl, rfl, HN.out, HB2.out, HTH2.out, HLT2.out⟩
            case measure => simp [RowKit.intOf]; omega
          | false =>
            rw [hq] at HQT2
            by_cases h91 : r = 91
            · have HN := Lib.hid (HJ.out.trans (H3.out h91))
              subst h91
              clear H1 H2 H3 H4 HJ HQD HQT h62 hq
              go_wp2_with fail
              refine (HQT2 _).out.mono ?_
              rintro e wx ⟨rfl, rfl⟩
              go_wp2_with fail
              refine HSB.out.mono ?_
              rintro e v2 ⟨rfl, hb2⟩
              have HB2 := Lib.hid (HB.out.trans (hb2.mono HB.out.size))
              have HTH2 := Lib.hid (there_below HTH.out hb2 HLT.out)
              have HLT2 := Lib.hid (Nat.lt_of_lt_of_le HLT.out hb2.size)
              clear hb2
              go_wp2
              go_roundw
              case rel => exact ⟨sj, sb, by omega, rfl, rfl, HN.out, HB2.out, HTH2.out, HLT2.out⟩
              case measure => simp [RowKit.intOf]; omega
            · have HN := Lib.hid (HJ.out.trans (H4.out h62 hq h91))
              have h91b : (r == 91) = false := by simpa using h91
              clear H1 H2 H3 H4 HJ HQD HSB HQT h62 hq h91
              go_wp2_with fail
              refine (HQT2 _).out.mono ?_
              rintro e wx ⟨rfl, rfl⟩
              go_wp2
              go_roundw
              case rel => exact ⟨j + 1, true, by omega, by go_num, rfl, HN.out, HB.out, HTH.out, HLT.out⟩
              case measure => simp [RowKit.intOf]; omega
      | false =>
        have HE : Hid (docTF l k = (7, l.length, false)) := by rw [Hid, HTT.out, HJ.out.trans (docGo_end l j false (by simp))]
        clear HJ HTT
        have HL9 := Lib.hid (load_struct (P := Tryz.prog) (T := 109) wr w.heap.size [.int .i64 7, .int .i64 k, .int .i64 (l.length), .bool false] HTH.out (by kernel_rfl) Tryz.underlying109 rfl)
        have HB9 := Lib.hid (below_setCells2 HB.out w.heap.size (Nat.le_refl _) [.int .i64 7, .int .i64 k, .int .i64 (l.length), .bool false] 0)
        obtain ⟨⟨z0, hz0⟩, hf0⟩ := there_cell HTH.out 0 (by decide)
        obtain ⟨⟨z1, hz1⟩, hf1⟩ := there_cell HTH.out 1 (by decide)
        obtain ⟨⟨z2, hz2⟩, hf2⟩ := there_cell HTH.out 2 (by decide)
        obtain ⟨⟨z3, hz3⟩, hf3⟩ := there_cell HTH.out 3 (by decide)
        go_wp2
        refine bodyPost_ret (results_cell1 rfl _ rfl HL9.out) rfl ?_
        rw [HE.out]
        exact ⟨by simp [tokV], HB9.out⟩
    · have hji : ¬ (j : Int) < (l.length : Int) := by omega
      have HE : Hid (docTF l k = (7, l.length, false)) := by rw [Hid, HTT.out, HJ.out.trans (docGo_end l j ok (fun h => hlt h.1))]
      clear HJ HTT
      have HL9 := Lib.hid (load_struct (P := Tryz.prog) (T := 109) wr w.heap.size [.int .i64 7, .int .i64 k, .int .i64 (l.length), .bool false] HTH.out (by kernel_rfl) Tryz.underlying109 rfl)
      have HB9 := Lib.hid (below_setCells2 HB.out w.heap.size (Nat.le_refl _) [.int .i64 7, .int .i64 k, .int .i64 (l.length), .bool false] 0)
      obtain ⟨⟨z0, hz0⟩, hf0⟩ := there_cell HTH.out 0 (by decide)
      obtain ⟨⟨z1, hz1⟩, hf1⟩ := there_cell HTH.out 1 (by decide)
      obtain ⟨⟨z2, hz2⟩, hf2⟩ := there_cell HTH.out 2 (by decide)
      obtain ⟨⟨z3, hz3⟩, hf3⟩ := there_cell HTH.out 3 (by decide)
      go_wp2
      refine bodyPost_ret (results_cell1 rfl _ rfl HL9.out) rfl ?_
      rw [HE.out]
      exact ⟨by simp [tokV], HB9.out⟩
end Go.Proofs.YtaklahcbeldbhaaGreatDoor
namespace Go.Proofs.YtaklahcbeldbhaaGreatDoor
open Go.RowKit Go.Lib
end Go.Proofs.YtaklahcbeldbhaaGreatDoor
namespace Go.Proofs.YtaklahcbeldbhaaGreatDoor
open Go.RowKit Go.Lib
set_option maxHeartbeats 2000000 in
set_option maxRecDepth 100000 in
theorem NextAmp_any (S : Nat → Prop) (A : Option Addr) (n c : Nat) (l : List Int) (k : Nat) (w : World) (hr : Rd w S 1 A n c (rc l)) (h38 : l[k]? = some 38) (hl9 : l.length ≤ 1000000000) :
    Calls Tryz.prog 71 #[.slice A n c, .int .i64 k] w fun e w' => e = .returned (.tuple #[tokV (refF l k) k, .bool true]) ∧ Below w.heap.size w w' := by
  obtain rfl := hr.rlen
  have hle := hr.le
  have hmx : c ≤ 9223372036854775807 := hr.max
  obtain ⟨hk, h38⟩ := List.getElem?_eq_some_iff.1 h38
  obtain ⟨b, o, rfl, hc0⟩ := hr.rune hk
  rw [h38] at hc0
  have hca := fun ob => cell_keep (ba w ob) hc0
  have hki : ¬ (k : Int) ≥ (l.length : Int) := by omega
  have HRF := fun W (h : Below w.heap.size w W) => Lib.hid (Ref_any S _ _ c l k W (hr.below h) hk hl9)
  clear hr h38
  generalize refF l k = t at HRF ⊢
  obtain ⟨kd, to, wh⟩ := t
  have HRF : ∀ W, Below w.heap.size w W → Hid (Calls Tryz.prog 95 #[.slice (some ⟨b, o, none⟩) l.length c, .int .i64 k] W fun e w' => e = .returned (.agg #[.int .i64 kd, .int .i64 k, .int .i64 to, .bool wh]) ∧ Below W.heap.size W w') := HRF
  go_enter Tryz.func71, Tryz.ntmps71
  go_wp2_with fail
  have HTH0 := Lib.hid (there_lit w #[.int .i64 0, .int .i64 0, .int .i64 0, .bool false] 109)
  have HB0 := Lib.hid (ba w (.cells #[.int .i64 0, .int .i64 0, .int .i64 0, .bool false] 109))
  have HSZ : Hid (w.heap.size < (w.alloc (.cells #[.int .i64 0, .int .i64 0, .int .i64 0, .bool false] 109)).heap.size) := by simp [Hid]
  generalize w.alloc (.cells #[.int .i64 0, .int .i64 0, .int .i64 0, .bool false] 109) = W0 at HTH0 HB0 HSZ
  refine (HRF _ HB0.out).out.mono ?_
  rintro e w1 ⟨rfl, hb1⟩
  have HB1 := Lib.hid (HB0.out.trans (hb1.mono HB0.out.size))
  have hth := there_below HTH0.out hb1 HSZ.out
  have HL9 := Lib.hid (load_struct (P := Tryz.prog) (T := 109) w1 w.heap.size [.int .i64 kd, .int .i64 k, .int .i64 to, .bool wh] hth (by kernel_rfl) Tryz.underlying109 rfl)
  have HB9 := Lib.hid (below_setCells2 HB1.out w.heap.size (Nat.le_refl _) [.int .i64 kd, .int .i64 k, .int .i64 to, .bool wh] 0)
  obtain ⟨⟨z0, hz0⟩, hf0⟩ := there_cell hth 0 (by decide)
  obtain ⟨⟨z1, hz1⟩, hf1⟩ := there_cell hth 1 (by decide)
  obtain ⟨⟨z2, hz2⟩, hf2⟩ := there_cell hth 2 (by decide)
  obtain ⟨⟨z3, hz3⟩, hf3⟩ := there_cell hth 3 (by decide)
  clear hth hb1 HTH0 HRF
  go_wp2
  refine bodyPost_ret (results_cell2 rfl _ rfl HL9.out) rfl ?_
  exact ⟨rfl, HB9.out⟩
end Go.Proofs.YtaklahcbeldbhaaGreatDoor
