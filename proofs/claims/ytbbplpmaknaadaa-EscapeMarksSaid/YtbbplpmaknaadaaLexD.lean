/-
  Layer 16 (dtd): Comment: the program's and the document's. Rows of at most 1000000000.
-/
import Derived.Test.YtbbplpmaknaadaaLexC
namespace Go.Proofs.Ytbbplpmaknaadaa
open Go.RowKit Go.Lib

def commentF (l : List Int) (a b : Nat) : Bool :=
  decide (7 ≤ b - a) && (startsF l a [60, 33, 45, 45] && (startsF l (b - 3) [45, 45, 62] && (((l.drop a).take (b - a)).all isChar && !(findF l (a + 4) (b - 2) [45, 45]).isSome)))

theorem findF_get (l : List Int) (k t : Nat) (bs : List UInt8) (j : Nat) (h : findF l k t bs = some j) : k ≤ j ∧ j + bs.length ≤ t ∧ startsF l j bs = true ∨ k ≤ j ∧ t < bs.length := by
  rw [findF, List.find?_range'_eq_some] at h
  obtain ⟨h1, h2, _⟩ := h
  have := List.mem_range'_1.1 h2
  by_cases ht : t < bs.length
  · exact .inr ⟨this.1, ht⟩
  · exact .inl ⟨this.1, by omega, h1⟩
theorem starts_two (l : List Int) (i : Nat) (x y : UInt8) (hx : x.toNat < 128) (hy : y.toNat < 128) (hi : i + 1 < l.length) : startsF l i [x, y] = (l[i] == (x.toNat : Int) && l[i + 1] == (y.toNat : Int)) := by
  have e : (l.drop i).take 2 = [l[i], l[i + 1]] := by rw [List.drop_eq_getElem_cons (by omega), List.drop_eq_getElem_cons hi]; rfl
  show (_ && ((l.drop i).take 2 == bi [x, y])) = _
  rw [e]
  simp [hx, hy, bi]

set_option maxHeartbeats 2000000 in
set_option maxRecDepth 100000 in
theorem Comment16_any (S : Nat → Prop) (A : Option Addr) (n c : Nat) (l : List Int) (a b : Nat) (w : World) (hr : Rd w S 1 A n c (rc l)) (hab : a ≤ b) (hbl : b ≤ l.length) (hl9 : l.length ≤ 1000000000) :
    Calls Try.prog 65 #[.slice A n c, .int .i64 a, .int .i64 b] w fun e w' => e = .returned (.bool (commentF l a b)) ∧ Below w.heap.size w w' := by
  obtain rfl := hr.rlen
  have hle := hr.le
  have hmx : c ≤ 9223372036854775807 := hr.max
  have hm : mayF l.length a b = true := by simp [mayF]; omega
  have HIN := fun W => Lib.hid (In_any A l.length c a b W)
  simp only [hm] at HIN
  clear hm
  have HS1 : ∀ W, Below w.heap.size w W → Hid (Calls Try.prog 85 #[.slice A l.length c, .int .i64 a, .string ⟨#[60, 33, 45, 45]⟩] W fun e w' => e = .returned (.bool (startsF l a [60, 33, 45, 45])) ∧ Below W.heap.size W w') :=
    fun W h => Starts_any S A l.length c l a ⟨#[60, 33, 45, 45]⟩ W (hr.below h) (by omega) hl9 (by decide)
  have HC : Hid (commentF l a b = (decide (7 ≤ b - a) && (startsF l a [60, 33, 45, 45] && (startsF l (b - 3) [45, 45, 62] && (((l.drop a).take (b - a)).all isChar && !(findF l (a + 4) (b - 2) [45, 45]).isSome))))) := rfl
  generalize commentF l a b = q at HC ⊢
  generalize startsF l a [60, 33, 45, 45] = s1 at HS1 HC
  by_cases h7 : 7 ≤ b - a
  · have h7i : ¬ (b : Int) - (a : Int) < 7 := by omega
    rw [decide_eq_true h7] at HC
    have HS2 : ∀ W, Below w.heap.size w W → Hid (Calls Try.prog 85 #[.slice A l.length c, .int .i64 ((b : Int) - 3), .string ⟨#[45, 45, 62]⟩] W fun e w' => e = .returned (.bool (startsF l (b - 3) [45, 45, 62])) ∧ Below W.heap.size W w') := by
      intro W h
      rw [show ((b : Int) - 3) = ((b - 3 : Nat) : Int) by omega]
      exact Starts_any S A l.length c l (b - 3) ⟨#[45, 45, 62]⟩ W (hr.below h) (by omega) hl9 (by decide)
    have HF : ∀ W, Below w.heap.size w W → Hid (Calls Try.prog 86 #[.slice A l.length c, .int .i64 ((a : Int) + 4), .int .i64 ((b : Int) - 2), .string ⟨#[45, 45]⟩] W fun e w' => e = .returned (.tuple #[.int .i64 ((findF l (a + 4) (b - 2) [45, 45]).getD 0), .bool (findF l (a + 4) (b - 2) [45, 45]).isSome]) ∧ Below W.heap.size W w') := by
      intro W h
      rw [show ((a : Int) + 4) = ((a + 4 : Nat) : Int) by omega, show ((b : Int) - 2) = ((b - 2 : Nat) : Int) by omega]
      exact LFind_any S A l.length c l (a + 4) (b - 2) ⟨#[45, 45]⟩ W (hr.below h) (by omega) (by omega) hl9 (by decide)
    obtain ⟨A2, hr2, hsl⟩ := hr.runesLH hab hbl
    have HCH := fun W (h : Below w.heap.size w W) => Lib.hid (All_any S A2 (b - a) (c - a) _ _ #[] isChar W eg_Char (hr2.below h) (Char_ok W))
    clear hr hr2
    generalize startsF l (b - 3) [45, 45, 62] = s2 at HS2 HC
    generalize ((l.drop a).take (b - a)).all isChar = ch at HCH HC
    generalize findF l (a + 4) (b - 2) [45, 45] = fo at HF HC
    cases s1 with
    | false =>
      go_enter Try.func65, Try.ntmps65
      go_wp2_with fail
      refine (HIN _).out.mono ?_
      rintro e w1 ⟨rfl, rfl⟩
      go_wp2_with fail
      refine (HS1 _ (Below.refl _ _)).out.mono ?_
      rintro e w1 ⟨rfl, hb1⟩
      go_wp2
      go_ret
      exact ⟨ret_bool HC.out.symm, hb1⟩
    | true =>
      cases s2 with
      | false =>
        go_enter Try.func65, Try.ntmps65
        go_wp2_with fail
        refine (HIN _).out.mono ?_
        rintro e w1 ⟨rfl, rfl⟩
        go_wp2_with fail
        refine (HS1 _ (Below.refl _ _)).out.mono ?_
        rintro e w1 ⟨rfl, hb1⟩
        go_wp2_with fail
        refine (HS2 _ hb1).out.mono ?_
        rintro e w2 ⟨rfl, hb2⟩
        go_wp2
        go_ret
        exact ⟨ret_bool HC.out.symm, bt hb1 hb2⟩
      | true =>
        cases ch with
        | false =>
          go_enter Try.func65, Try.ntmps65
          go_wp2_with fail
          refine (HIN _).out.mono ?_
          rintro e w1 ⟨rfl, rfl⟩
          go_wp2_with fail
          refine (HS1 _ (Below.refl _ _)).out.mono ?_
          rintro e w1 ⟨rfl, hb1⟩
          go_wp2_with fail
          refine (HS2 _ hb1).out.mono ?_
          rintro e w2 ⟨rfl, hb2⟩
          go_wp2_with fail
          refine (HCH _ (bt hb1 hb2)).out.mono ?_
          rintro e w3 ⟨rfl, hb3⟩
          go_wp2
          go_ret
          exact ⟨ret_bool HC.out.symm, bt (bt hb1 hb2) hb3⟩
        | true =>
          go_enter Try.func65, Try.ntmps65
          go_wp2_with fail
          refine (HIN _).out.mono ?_
          rintro e w1 ⟨rfl, rfl⟩
          go_wp2_with fail
          refine (HS1 _ (Below.refl _ _)).out.mono ?_
          rintro e w1 ⟨rfl, hb1⟩
          go_wp2_with fail
          refine (HS2 _ hb1).out.mono ?_
          rintro e w2 ⟨rfl, hb2⟩
          go_wp2_with fail
          refine (HCH _ (bt hb1 hb2)).out.mono ?_
          rintro e w3 ⟨rfl, hb3⟩
          go_wp2_with fail
          refine (HF _ (bt (bt hb1 hb2) hb3)).out.mono ?_
          rintro e w4 ⟨rfl, hb4⟩
          go_wp2
          go_ret
          exact ⟨ret_bool (by rw [HC.out]; cases fo <;> rfl), bt (bt (bt hb1 hb2) hb3) hb4⟩
  · have h7i : (b : Int) - (a : Int) < 7 := by omega
    rw [decide_eq_false h7] at HC
    clear HS1 hr
    go_enter Try.func65, Try.ntmps65
    go_wp2_with fail
    refine (HIN _).out.mono ?_
    rintro e w1 ⟨rfl, rfl⟩
    go_wp2
    go_ret
    exact ⟨ret_bool HC.out.symm, Below.refl _ _⟩

set_option maxHeartbeats 2000000 in
set_option maxRecDepth 100000 in
theorem RComment16_any (S : Nat → Prop) (A : Option Addr) (n c : Nat) (l : List Int) (a b : Nat) (w : World) (hr : Rd w S 1 A n c (rc l)) (hab : a ≤ b) (hbl : b ≤ l.length) (hl9 : l.length ≤ 1000000000) (hi : I32 l) :
    Calls Try.prog 66 #[.slice A n c, .int .i64 a, .int .i64 b] w fun e w' => e = .returned (.bool (commentF l a b)) ∧ Below w.heap.size w w' := by
  obtain rfl := hr.rlen
  have hle := hr.le
  have hmx : c ≤ 9223372036854775807 := hr.max
  have hm : mayF l.length a b = true := by simp [mayF]; omega
  have HIN := fun W => Lib.hid (RMay_any A l.length c a b W)
  simp only [hm] at HIN
  clear hm
  have HC : Hid (commentF l a b = (decide (7 ≤ b - a) && (startsF l a [60, 33, 45, 45] && (startsF l (b - 3) [45, 45, 62] && (((l.drop a).take (b - a)).all isChar && !(findF l (a + 4) (b - 2) [45, 45]).isSome))))) := rfl
  generalize commentF l a b = q at HC ⊢
  by_cases h7 : 7 ≤ b - a
  · have h7i : ¬ (b : Int) - (a : Int) < 7 := by omega
    rw [decide_eq_true h7, Bool.true_and] at HC
    have HS1 : ∀ W, Below w.heap.size w W → Hid (Calls Try.prog 89 #[.slice A l.length c, .int .i64 a, .string ⟨#[60, 33, 45, 45]⟩] W fun e w' => e = .returned (.bool (startsF l a [60, 33, 45, 45])) ∧ Below W.heap.size W w') :=
      fun W h => RStarts_any S A l.length c l a ⟨#[60, 33, 45, 45]⟩ W (hr.below h) (by omega) hl9 (by decide) hi
    have HS2 : ∀ W, Below w.heap.size w W → Hid (Calls Try.prog 89 #[.slice A l.length c, .int .i64 ((b : Int) - 3), .string ⟨#[45, 45, 62]⟩] W fun e w' => e = .returned (.bool (startsF l (b - 3) [45, 45, 62])) ∧ Below W.heap.size W w') := by
      intro W h
      rw [show ((b : Int) - 3) = ((b - 3 : Nat) : Int) by omega]
      exact RStarts_any S A l.length c l (b - 3) ⟨#[45, 45, 62]⟩ W (hr.below h) (by omega) hl9 (by decide) hi
    obtain ⟨A2, hr2, hsl⟩ := hr.runesLH hab hbl
    have HCH := fun W (h : Below w.heap.size w W) => Lib.hid (RChars16_any S A2 (b - a) (c - a) _ W (hr2.below h) (by simp; omega))
    have HR := Lib.hid hr
    clear hr hr2
    generalize startsF l a [60, 33, 45, 45] = s1 at HS1 HC
    generalize startsF l (b - 3) [45, 45, 62] = s2 at HS2 HC
    generalize ((l.drop a).take (b - a)).all isChar = ch at HCH HC
    cases ch with
    | false =>
      rw [Bool.false_and, Bool.and_false, Bool.and_false] at HC
      go_enter Try.func66, Try.ntmps66
      go_wp2_with fail
      refine (HIN _).out.mono ?_
      rintro e w1 ⟨rfl, rfl⟩
      go_wp2_with fail
      refine (HCH _ (Below.refl _ _)).out.mono ?_
      rintro e w1 ⟨rfl, rfl⟩
      go_wp2
      go_ret
      exact ⟨ret_bool HC.out.symm, Below.refl _ _⟩
    | true =>
      cases s1 with
      | false =>
        go_enter Try.func66, Try.ntmps66
        go_wp2_with fail
        refine (HIN _).out.mono ?_
        rintro e w1 ⟨rfl, rfl⟩
        go_wp2_with fail
        refine (HCH _ (Below.refl _ _)).out.mono ?_
        rintro e w1 ⟨rfl, rfl⟩
        go_wp2_with fail
        refine (HS1 _ (Below.refl _ _)).out.mono ?_
        rintro e w1 ⟨rfl, hb1⟩
        go_wp2
        go_ret
        exact ⟨ret_bool HC.out.symm, hb1⟩
      | true =>
        cases s2 with
        | false =>
          go_enter Try.func66, Try.ntmps66
          go_wp2_with fail
          refine (HIN _).out.mono ?_
          rintro e w1 ⟨rfl, rfl⟩
          go_wp2_with fail
          refine (HCH _ (Below.refl _ _)).out.mono ?_
          rintro e w1 ⟨rfl, rfl⟩
          go_wp2_with fail
          refine (HS1 _ (Below.refl _ _)).out.mono ?_
          rintro e w1 ⟨rfl, hb1⟩
          go_wp2_with fail
          refine (HS2 _ hb1).out.mono ?_
          rintro e w2 ⟨rfl, hb2⟩
          go_wp2
          go_ret
          exact ⟨ret_bool HC.out.symm, bt hb1 hb2⟩
        | true =>
          rw [Bool.true_and, Bool.true_and, Bool.true_and] at HC
          go_enter Try.func66, Try.ntmps66
          go_wp2_with fail
          refine (HIN _).out.mono ?_
          rintro e w1 ⟨rfl, rfl⟩
          go_wp2_with fail
          refine (HCH _ (Below.refl _ _)).out.mono ?_
          rintro e w1 ⟨rfl, rfl⟩
          go_wp2_with fail
          refine (HS1 _ (Below.refl _ _)).out.mono ?_
          rintro e w1 ⟨rfl, hb1⟩
          go_wp2_with fail
          refine (HS2 _ hb1).out.mono ?_
          rintro e w2 ⟨rfl, hb2⟩
          have HB := Lib.hid (bt hb1 hb2)
          clear hb1 hb2 HS1 HS2 HCH HIN hsl
          go_wp2
          go_loopw [7] (fun i wr => wr = w2 ∧ ∃ j : Nat, a + 4 ≤ j ∧ j ≤ b ∧ i = .int .i64 j ∧ Hid (∀ i, a + 4 ≤ i → i < j → startsF l i [45, 45] = false)) (fun i _ => b - (intOf i).toNat)
          case atStart => exact ⟨rfl, a + 4, by omega, by omega, by go_num, fun i h1 h2 => absurd h2 (by omega)⟩
          case round =>
            obtain ⟨rfl, j, hj1, hj2, rfl, HJ⟩ := hrel
            by_cases hlt : j + 1 < b - 2
            · have hlti : (j : Int) + 1 < (b : Int) - 2 := by omega
              have hjl : j < l.length := by omega
              have hjl1 : j + 1 < l.length := by omega
              have hjli : (j : Int) + 1 < (l.length : Int) := by omega
              obtain ⟨bk, o, rfl, hc0⟩ := (HR.out.below HB.out).rune hjl
              obtain ⟨bk2, o2, hA, hc1⟩ := (HR.out.below HB.out).rune hjl1
              injection hA with hA
              injection hA with e1 e2
              subst e1 e2
              have hst := starts_two l j 45 45 (by decide) (by decide) hjl1
              have HN := Lib.hid (fun (h : startsF l j [45, 45] = true) => (by
                have := findF_none l (a + 4) (b - 2) [45, 45]
                cases hf : findF l (a + 4) (b - 2) [45, 45] with
                | some v => rfl
                | none =>
                  rw [findF, List.find?_eq_none] at hf
                  exact absurd h (hf j (List.mem_range'_1.2 ⟨hj1, by simp; omega⟩)) : (findF l (a + 4) (b - 2) [45, 45]).isSome = true))
              have HJ2 := Lib.hid (fun (h : startsF l j [45, 45] = false) => (fun i h1 h2 => by
                by_cases e : i = j
                · subst e; exact h
                · exact HJ.out i h1 (by omega) : ∀ i, a + 4 ≤ i → i < j + 1 → startsF l i [45, 45] = false))
              simp only [hst] at HN HJ2
              clear hst
              generalize l[j] = x at hc0 HN HJ2
              generalize l[j + 1] = y at hc1 HN HJ2
              by_cases hx : x = 45
              · subst hx
                by_cases hy : y = 45
                · subst hy
                  have HE : Hid (q = false) := by rw [Hid, HC.out, HN.out rfl]; rfl
                  clear HN HJ2
                  go_wp2
                  go_ret
                  exact ⟨ret_bool HE.out.symm, HB.out⟩
                · have hyb : (y == 45) = false := by simpa using hy
                  have HJ3 := HJ2.out (by simpa using hy)
                  clear HN HJ2
                  go_wp2
                  go_roundw
                  case rel => exact ⟨trivial, j + 1, by omega, by omega, by go_num, HJ3⟩
                  case measure => simp [intOf]; omega
              · have hxb : (x == 45) = false := by simpa using hx
                have HJ3 := HJ2.out (by simp [hxb])
                clear HN HJ2
                go_wp2
                go_roundw
                case rel => exact ⟨trivial, j + 1, by omega, by omega, by go_num, HJ3⟩
                case measure => simp [intOf]; omega
            · have hlti : ¬ (j : Int) + 1 < (b : Int) - 2 := by omega
              have HE : Hid (q = true) := by
                rw [Hid, HC.out, findF_none l (a + 4) (b - 2) [45, 45] fun i h1 h2 => HJ.out i h1 (by simp at h2; omega)]; rfl
              go_wp2
              go_ret
              exact ⟨ret_bool HE.out.symm, HB.out⟩
  · have h7i : (b : Int) - (a : Int) < 7 := by omega
    rw [decide_eq_false h7] at HC
    clear hr
    go_enter Try.func66, Try.ntmps66
    go_wp2_with fail
    refine (HIN _).out.mono ?_
    rintro e w1 ⟨rfl, rfl⟩
    go_wp2
    go_ret
    exact ⟨ret_bool HC.out.symm, Below.refl _ _⟩

end Go.Proofs.Ytbbplpmaknaadaa
