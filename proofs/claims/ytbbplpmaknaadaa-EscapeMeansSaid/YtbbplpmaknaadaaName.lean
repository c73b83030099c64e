/-
  Layer 5 (name): Lead, Name: the program's and the document's. Texts of at most 300000000 bytes.
-/
import Derived.Test.YtbbplpmaknaadaaRunes
import Derived.Test.YtbbplpmaknaadaaRefC
namespace Go.Proofs.Ytbbplpmaknaadaa
open Go.RowKit Go.Lib

theorem Rd.rune {w : World} {S : Nat → Prop} {n c : Nat} {A : Option Addr} {l : List Int} (h : Rd w S 1 A n c (rc l)) {k : Nat} (hk : k < l.length) :
    ∃ b o, A = some ⟨b, o, none⟩ ∧ w.cell? ⟨b, o + k, none⟩ = some (.int .i32 l[k]) := by
  have hl := h.len
  obtain ⟨b, o, u, e, _, hu, hc⟩ := h.one (k := k) (by simp at hl; omega)
  obtain ⟨_, rfl⟩ := rc_get hu
  exact ⟨b, o, e, hc⟩
theorem Rd.rlen {w : World} {S : Nat → Prop} {n c : Nat} {A : Option Addr} {l : List Int} (h : Rd w S 1 A n c (rc l)) : n = l.length := by have := h.len; simpa using this.symm

theorem NameChar_ok (w : World) : PredOk Try.prog 103 #[] isNameChar w := fun W r _ => NameChar_any r W
theorem eg_NameChar : ∀ args w, (callFunc 103 args).run Try.prog w = .ok (.enter 103 args) w := enters_of Try.func103 (by kernel_rfl) rfl

def leadF (l : List Int) (k : Nat) : Nat := match l[k]? with
  | none => 0
  | some r => if isNameStart r then ((l.drop k).takeWhile isNameChar).length else 0

theorem start_char (r : Int) (h : isNameStart r = true) : isNameChar r = true := by simp [isNameChar, h]

set_option maxHeartbeats 1000000 in
set_option maxRecDepth 100000 in
theorem NLead_any (S : Nat → Prop) (A : Option Addr) (n c : Nat) (l : List Int) (k : Nat) (w : World) (hr : Rd w S 1 A n c (rc l)) (hk : k ≤ 1000000000) :
    Calls Try.prog 78 #[.slice A n c, .int .i64 k] w fun e w' => e = .returned (.int .i64 (leadF l k)) ∧ Below w.heap.size w w' := by
  obtain rfl := hr.rlen
  have hle := hr.le
  have hmx : c ≤ 9223372036854775807 := hr.max
  have HR := Lib.hid hr
  clear hr
  by_cases hlt : k < l.length
  · obtain ⟨b, o, rfl, hc0⟩ := HR.out.rune hlt
    have hkl : ¬ (k : Int) ≥ (l.length : Int) := by omega
    have HS := fun w => Lib.hid (NameStart_any l[k] w)
    have HL : Hid (leadF l k = if isNameStart l[k] then ((l.drop k).takeWhile isNameChar).length else 0) := by rw [Hid, leadF, List.getElem?_eq_getElem hlt]
    have HF : Hid (runF isNameChar l k = ((l.drop k).takeWhile isNameChar).length) := by rw [Hid, runF, if_neg (by omega), Int.toNat_natCast]
    generalize l[k] = r at hc0 HS HL
    cases hs : isNameStart r with
    | true =>
      rw [hs] at HS HL
      go_enter Try.func78, Try.ntmps78
      go_wp2_with (first
        | (go_at_call 102; refine (HS _).out.mono ?_; rintro e w' ⟨rfl, hb⟩)
        | (go_at_call 47; refine (Run_any S _ l.length c l k _ #[] isNameChar w' eg_NameChar (HR.out.below hb) (NameChar_ok w')).mono ?_; rintro e w2 ⟨rfl, hb2⟩))
      go_ret
      exact ⟨ret_int (by rw [HL.out, HF.out]; rfl), hb.trans (hb2.mono hb.size)⟩
    | false =>
      rw [hs] at HS HL
      go_enter Try.func78, Try.ntmps78
      go_wp2_with (go_at_call 102; refine (HS _).out.mono ?_; rintro e w' ⟨rfl, hb⟩)
      go_ret
      exact ⟨ret_int (by rw [HL.out]; rfl), hb⟩
  · have hkl : (k : Int) ≥ (l.length : Int) := by omega
    have HL : Hid (leadF l k = 0) := by rw [Hid, leadF, List.getElem?_eq_none (by omega)]
    go_enter Try.func78, Try.ntmps78
    go_wp2
    go_ret
    exact ⟨ret_int (by rw [HL.out]; rfl), Below.refl _ _⟩

theorem takeWhile_upto (p : Int → Bool) (l : List Int) (k j : Nat) (h : ∀ i, i < j → (h : k + i < l.length) → p l[k + i] = true) (hj : k + j ≤ l.length)
    (hs : ∀ h : k + j < l.length, p l[k + j] = false) : ((l.drop k).takeWhile p).length = j := by
  induction j generalizing k with
  | zero =>
    by_cases hk : k < l.length
    · rw [List.drop_eq_getElem_cons hk, List.takeWhile_cons]
      have := hs (by omega)
      simp only [Nat.add_zero] at this
      rw [this]; rfl
    · rw [List.drop_eq_nil_of_le (by omega)]; rfl
  | succ j ih =>
    have hk : k < l.length := by omega
    rw [List.drop_eq_getElem_cons hk, List.takeWhile_cons]
    have h0 := h 0 (by omega) (by omega)
    simp only [Nat.add_zero] at h0
    rw [h0]
    have := ih (k + 1) (fun i hi hl => by
      have := h (i + 1) (by omega) (by omega)
      simpa [Nat.add_assoc, Nat.add_comm 1] using this) (by omega) (fun hl => by
      have := hs (by omega)
      simpa [Nat.add_assoc, Nat.add_comm 1] using this)
    simp [this]

set_option maxHeartbeats 1000000 in
set_option maxRecDepth 100000 in
theorem RLead_any (S : Nat → Prop) (A : Option Addr) (n c : Nat) (l : List Int) (k : Nat) (w : World) (hr : Rd w S 1 A n c (rc l)) (hk : k ≤ 1000000000) (hll : l.length ≤ 1000000000) :
    Calls Try.prog 80 #[.slice A n c, .int .i64 k] w fun e w' => e = .returned (.int .i64 (leadF l k)) ∧ w = w' := by
  obtain rfl := hr.rlen
  have hle := hr.le
  have hmx : c ≤ 9223372036854775807 := hr.max
  have HR := Lib.hid hr
  clear hr
  by_cases hlt : k < l.length
  · obtain ⟨b, o, rfl, hc0⟩ := HR.out.rune hlt
    have hkl : ¬ (k : Int) ≥ (l.length : Int) := by omega
    have HL : Hid (leadF l k = if isNameStart l[k] then ((l.drop k).takeWhile isNameChar).length else 0) := by rw [Hid, leadF, List.getElem?_eq_getElem hlt]
    have HS := fun w => Lib.hid (RNameStart_any l[k] w)
    cases hs : isNameStart l[k] with
    | true =>
      have HC0 := Lib.hid (start_char _ hs)
      rw [hs] at HS HL
      generalize hrr : l[k] = r at hc0 HS HC0
      have HRR := Lib.hid hrr
      clear hrr hs
      go_enter Try.func80, Try.ntmps80
      go_wp2_with (go_at_call 105; refine (HS _).out.mono ?_; rintro e w' ⟨rfl, rfl⟩)
      clear hc0
      go_loopw [5] (fun v wr => wr = w ∧ ∃ j : Nat, 1 ≤ j ∧ k + j ≤ l.length ∧ v = .int .i64 j ∧ Hid (∀ i, i < j → (h : k + i < l.length) → isNameChar l[k + i] = true)) (fun v _ => l.length - (intOf v).toNat)
      case atStart =>
        refine ⟨rfl, 1, by omega, by omega, rfl, fun i hi h => ?_⟩
        have e : i = 0 := by omega
        subst e
        simp only [Nat.add_zero]
        rw [HRR.out]; exact HC0.out
      case round =>
        obtain ⟨rfl, j, hj1, hj2, rfl, HJ⟩ := hrel
        by_cases hlj : k + j < l.length
        · obtain ⟨b2, o2, hA, hc1⟩ := HR.out.rune hlj
          injection hA with hA
          injection hA with e1 e2
          subst e1 e2
          have hlj' : (k : Int) + (j : Int) < (l.length : Int) := by omega
          have HM := fun w => Lib.hid (RNameChar_any l[k + j] w)
          cases hq : isNameChar l[k + j] with
          | true =>
            have HJ2 : Hid (∀ i, i < j + 1 → (h : k + i < l.length) → isNameChar l[k + i] = true) := fun i hi h => by
              by_cases e : i = j
              · subst e; exact hq
              · exact HJ.out i (by omega) h
            rw [hq] at HM
            clear hq
            generalize l[k + j] = r2 at hc1 HM
            go_wp2_with (go_at_call 106; refine (HM _).out.mono ?_; rintro e w' ⟨rfl, rfl⟩)
            go_roundw
            case rel => exact ⟨trivial, j + 1, by omega, by omega, by go_num, HJ2.out⟩
            case measure => simp [intOf]; omega
          | false =>
            have HE : Hid (((l.drop k).takeWhile isNameChar).length = j) := takeWhile_upto _ l k j HJ.out (by omega) (fun h => hq)
            rw [hq] at HM
            clear hq
            generalize l[k + j] = r2 at hc1 HM
            go_wp2_with (go_at_call 106; refine (HM _).out.mono ?_; rintro e w' ⟨rfl, rfl⟩)
            go_ret
            exact ⟨ret_int (by rw [HL.out, HE.out]; rfl), rfl⟩
        · have hlj' : ¬ (k : Int) + (j : Int) < (l.length : Int) := by omega
          have HE : Hid (((l.drop k).takeWhile isNameChar).length = j) := takeWhile_upto _ l k j HJ.out (by omega) (fun h => absurd h hlj)
          go_wp2
          go_ret
          exact ⟨ret_int (by rw [HL.out, HE.out]; rfl), rfl⟩
    | false =>
      rw [hs] at HS HL
      generalize l[k] = r at hc0 HS
      clear hs
      go_enter Try.func80, Try.ntmps80
      go_wp2_with (go_at_call 105; refine (HS _).out.mono ?_; rintro e w' ⟨rfl, rfl⟩)
      go_ret
      exact ⟨ret_int (by rw [HL.out]; rfl), rfl⟩
  · have hkl : (k : Int) ≥ (l.length : Int) := by omega
    have HL : Hid (leadF l k = 0) := by rw [Hid, leadF, List.getElem?_eq_none (by omega)]
    go_enter Try.func80, Try.ntmps80
    go_wp2
    go_ret
    exact ⟨ret_int (by rw [HL.out]; rfl), rfl⟩

def nameF (l : List UInt8) : Bool := decide (0 < (runesF l).length) && (leadF (runesF l) 0 == (runesF l).length)

theorem runesF_empty (l : List UInt8) : (runesF l).length = 0 ↔ l = [] := by
  cases l with
  | nil => simp [runesF, itemsF, itemsGo]
  | cons b t => simp [runesF, itemsF, itemsGo]

set_option maxHeartbeats 1000000 in
set_option maxRecDepth 100000 in
theorem NName_any (s : ByteArray) (w : World) (hlen : s.size ≤ 300000000) :
    Calls Try.prog 57 #[.string s] w fun e w' => e = .returned (.bool (nameF s.data.toList)) ∧ Below w.heap.size w w' := by
  have HRU := Lib.hid (NRunes_any s w hlen)
  have hll : (runesF s.data.toList).length ≤ 300000000 := Nat.le_trans (runesF_len _) (by simpa using hlen)
  have HN : Hid (nameF s.data.toList = (decide (0 < (runesF s.data.toList).length) && (leadF (runesF s.data.toList) 0 == (runesF s.data.toList).length))) := rfl
  generalize nameF s.data.toList = q at HN ⊢
  generalize runesF s.data.toList = l at HRU HN hll
  go_enter Try.func57, Try.ntmps57
  go_wp2_with fail
  refine HRU.out.mono ?_
  rintro e w1 ⟨v, rfl, ⟨n', hown⟩, hb⟩
  obtain ⟨A, c, rfl, hro⟩ := own_form hown
  obtain rfl := hro.rlen
  have hle := hro.le
  have hmx : c ≤ 9223372036854775807 := hro.max
  have HO := Lib.hid hro
  have HB := Lib.hid hb
  clear hro hown hb
  have HL := Lib.hid (NLead_any _ A l.length c l 0 w1 HO.out (by omega))
  by_cases h0 : 0 < l.length
  · have h0' : (0 : Int) < (l.length : Int) := by omega
    generalize leadF l 0 = m at HL HN
    go_wp2_with (go_at_call 78; refine HL.out.mono ?_; rintro e w2 ⟨rfl, hb2⟩)
    go_ret
    refine ⟨ret_bool ?_, HB.out.trans (hb2.mono HB.out.size)⟩
    rw [HN.out, decide_eq_true h0, Bool.true_and, Bool.eq_iff_iff]
    simp only [beq_iff_eq]
    omega
  · have h0' : ¬ (0 : Int) < (l.length : Int) := by omega
    go_wp2
    go_ret
    refine ⟨ret_bool ?_, HB.out⟩
    rw [HN.out, decide_eq_false h0]; rfl

set_option maxHeartbeats 1000000 in
set_option maxRecDepth 100000 in
theorem RName_any (s : ByteArray) (w : World) (hlen : s.size ≤ 300000000) :
    Calls Try.prog 59 #[.string s] w fun e w' => e = .returned (.bool (nameF s.data.toList)) ∧ Below w.heap.size w w' := by
  have HRU := fun w => Lib.hid (RRunes_any s w hlen)
  have hll : (runesF s.data.toList).length ≤ 300000000 := Nat.le_trans (runesF_len _) (by simpa using hlen)
  have HN : Hid (nameF s.data.toList = (decide (0 < (runesF s.data.toList).length) && (leadF (runesF s.data.toList) 0 == (runesF s.data.toList).length))) := rfl
  have HZ := Lib.hid (runesF_empty s.data.toList)
  have hss : s.toList = s.data.toList := ByteArray.toList_eq s
  generalize nameF s.data.toList = q at HN ⊢
  generalize runesF s.data.toList = l at HRU HN hll HZ
  cases he : s.data.toList with
  | nil =>
    rw [he] at HZ hss
    have h1 : (s.toList == []) = true := by rw [hss]; rfl
    have h2 : s.toList.isEmpty = true := by rw [hss]; rfl
    go_enter Try.func59, Try.ntmps59
    go_wp2
    go_ret
    refine ⟨ret_bool ?_, Below.refl _ _⟩
    have : l.length = 0 := by simpa [Hid] using HZ
    rw [HN.out, decide_eq_false (by omega)]; rfl
  | cons b0 t0 =>
    rw [he] at HZ hss
    have h1 : (s.toList == []) = false := by rw [hss]; rfl
    have h2 : s.toList.isEmpty = false := by rw [hss]; rfl
    have h0 : 0 < l.length := by
      have := HZ.out
      simp at this
      exact List.length_pos_iff.2 this
    clear he hss HZ
    go_enter Try.func59, Try.ntmps59
    go_wp2_with fail
    refine (HRU _).out.mono ?_
    rintro e w1 ⟨v, rfl, ⟨n', hown⟩, hb⟩
    obtain ⟨A, c, rfl, hro⟩ := own_form hown
    obtain rfl := hro.rlen
    have hle := hro.le
    have hmx : c ≤ 9223372036854775807 := hro.max
    have HO := Lib.hid hro
    have HB := Lib.hid hb
    clear hro hown hb
    have HL := Lib.hid (RLead_any _ A l.length c l 0 w1 HO.out (by omega) (by omega))
    generalize leadF l 0 = m at HL HN
    go_wp2_with fail
    refine HL.out.mono ?_
    rintro e w2 ⟨rfl, rfl⟩
    go_wp2_with fail
    refine (HRU _).out.mono ?_
    rintro e w3 ⟨v3, rfl, ⟨n3, hown3⟩, hb3⟩
    obtain ⟨A3, c3, rfl, hro3⟩ := own_form hown3
    obtain rfl := hro3.rlen
    go_wp2
    go_ret
    refine ⟨ret_bool ?_, HB.out.trans (hb3.mono HB.out.size)⟩
    rw [HN.out, decide_eq_true h0, Bool.true_and, Bool.eq_iff_iff]
    simp only [beq_iff_eq]
    omega

end Go.Proofs.Ytbbplpmaknaadaa
