/- Parts of the proof; conditions as told. -/
import Derived.Test.YtlnojpllgclgfaaGreatQF02
import Derived.Lib.AppendStr
import Derived.Lib.Bytealg
import Derived.Test.YtlnojpllgclgfaaGreatQF01
set_option linter.unusedSimpArgs false
set_option linter.unusedVariables false
namespace Go.Proofs.YtlnojpllgclgfaaGreat
open Go.RowKit Go.Lib
def commentF (l : List Int) (a b : Nat) : Bool :=
  decide (7 ≤ b - a) && (startsF l a [60, 33, 45, 45] && (startsF l (b - 3) [45, 45, 62] && (((l.drop a).take (b - a)).all isChar && !(findF l (a + 4) (b - 2) [45, 45]).isSome)))
theorem starts_two (l : List Int) (i : Nat) (x y : UInt8) (hx : x.toNat < 128) (hy : y.toNat < 128) (hi : i + 1 < l.length) : startsF l i [x, y] = (l[i] == (x.toNat : Int) && l[i + 1] == (y.toNat : Int)) := by
  have e : (l.drop i).take 2 = [l[i], l[i + 1]] := by rw [List.drop_eq_getElem_cons (by omega), List.drop_eq_getElem_cons hi]; rfl
  show (_ && ((l.drop i).take 2 == bi [x, y])) = _
  rw [e]
  simp [hx, hy, bi]
set_option maxHeartbeats 2000000 in
set_option maxRecDepth 100000 in
theorem Comment16_any (S : Nat → Prop) (A : Option Addr) (n c : Nat) (l : List Int) (a b : Nat) (w : World) (hr : Rd w S 1 A n c (rc l)) (hab : a ≤ b) (hbl : b ≤ l.length) (hl9 : l.length ≤ 1000000000) :
    Calls Tryz.prog 9 #[.slice A n c, .int .i64 a, .int .i64 b] w fun e w' => e = .returned (.bool (commentF l a b)) ∧ Below w.heap.size w w' := by
  obtain rfl := hr.rlen
  have hle := hr.le
  have hmx : c ≤ 9223372036854775807 := hr.max
  have hm : mayF l.length a b = true := by simp [mayF]; omega
  have HIN := fun W => Lib.hid (In_any A l.length c a b W)
  simp only [hm] at HIN
  clear hm
  have HS1 : ∀ W, Below w.heap.size w W → Hid (Calls Tryz.prog 29 #[.slice A l.length c, .int .i64 a, .string ⟨#[60, 33, 45, 45]⟩] W fun e w' => e = .returned (.bool (startsF l a [60, 33, 45, 45])) ∧ Below W.heap.size W w') :=
    fun W h => Starts_any S A l.length c l a ⟨#[60, 33, 45, 45]⟩ W (hr.below h) (by omega) hl9 (by decide)
  have HC : Hid (commentF l a b = (decide (7 ≤ b - a) && (startsF l a [60, 33, 45, 45] && (startsF l (b - 3) [45, 45, 62] && (((l.drop a).take (b - a)).all isChar && !(findF l (a + 4) (b - 2) [45, 45]).isSome))))) := rfl
  generalize commentF l a b = q at HC ⊢
  generalize startsF l a [60, 33, 45, 45] = s1 at HS1 HC
  by_cases h7 : 7 ≤ b - a
  · have h7i : ¬ (b : Int) - (a : Int) < 7 := by omega
    rw [decide_eq_true h7] at HC
    have HS2 : ∀ W, Below w.heap.size w W → Hid (Calls Tryz.prog 29 #[.slice A l.length c, .int .i64 ((b : Int) - 3), .string ⟨#[45, 45, 62]⟩] W fun e w' => e = .returned (.bool (startsF l (b - 3) [45, 45, 62])) ∧ Below W.heap.size W w') := by
      intro W h
      rw [show ((b : Int) - 3) = ((b - 3 : Nat) : Int) by omega]
      exact Starts_any S A l.length c l (b - 3) ⟨#[45, 45, 62]⟩ W (hr.below h) (by omega) hl9 (by decide)
    have HF : ∀ W, Below w.heap.size w W → Hid (Calls Tryz.prog 38 #[.slice A l.length c, .int .i64 ((a : Int) + 4), .int .i64 ((b : Int) - 2), .string ⟨#[45, 45]⟩] W fun e w' => e = .returned (.tuple #[.int .i64 ((findF l (a + 4) (b - 2) [45, 45]).getD 0), .bool (findF l (a + 4) (b - 2) [45, 45]).isSome]) ∧ Below W.heap.size W w') := by
      intro W h
      rw [show ((a : Int) + 4) = ((a + 4 : Nat) : Int) by omega, show ((b : Int) - 2) = ((b - 2 : Nat) : Int) by omega]
      exact LFind_any S A l.length c l (a + 4) (b - 2) ⟨#[45, 45]⟩ W (hr.below h) (by omega) (by omega) hl9 (by decide)
    obtain ⟨A2, hr2, hsl⟩ := hr.runesLH hab hbl
    have HCH := fun W (h : Below w.heap.size w W) => Lib.hid (All_any S A2 (b - a) (c - a) _ _ #[] isChar W eg_Char (hr2.below h) (Char_ok W))
    clear hr hr2
    generalize startsF l (b - 3) [45, 45, 62] = s2 at HS2 HC
    generalize ((l.drop a).take (b - a)).all isChar = ch at HCH HC
    generalize findF l (a + 4) (b - 2) [45, 45] = fo at HF HC
    cases s1 with
    | false =>
      go_enter Tryz.func9, Tryz.ntmps9
      go_wp2_with fail
      refine (HIN _).out.mono ?_
      rintro e w1 ⟨rfl, rfl⟩
      go_wp2_with fail
      refine (HS1 _ (Below.refl _ _)).out.mono ?_
      rintro e w1 ⟨rfl, hb1⟩
      go_wp2
      go_ret
      exact ⟨ret_bool HC.out.symm, hb1⟩
    | true =>
      cases s2 with
      | false =>
        go_enter Tryz.func9, Tryz.ntmps9
        go_wp2_with fail
        refine (HIN _).out.mono ?_
        rintro e w1 ⟨rfl, rfl⟩
        go_wp2_with fail
        refine (HS1 _ (Below.refl _ _)).out.mono ?_
        rintro e w1 ⟨rfl, hb1⟩
        go_wp2_with fail
        refine (HS2 _ hb1).out.mono ?_
        rintro e w2 ⟨rfl, hb2⟩
        go_wp2
        go_ret
        exact ⟨ret_bool HC.out.symm, bt hb1 hb2⟩
      | true =>
        cases ch with
        | false =>
          go_enter Tryz.func9, Tryz.ntmps9
          go_wp2_with fail
          refine (HIN _).out.mono ?_
          rintro e w1 ⟨rfl, rfl⟩
          go_wp2_with fail
          refine (HS1 _ (Below.refl _ _)).out.mono ?_
          rintro e w1 ⟨rfl, hb1⟩
          go_wp2_with fail
          refine (HS2 _ hb1).out.mono ?_
          rintro e w2 ⟨rfl, hb2⟩
          go_wp2_with fail
          refine (HCH _ (bt hb1 hb2)).out.mono ?_
          rintro e w3 ⟨rfl, hb3⟩
          go_wp2
          go_ret
          exact ⟨ret_bool HC.out.symm, bt (bt hb1 hb2) hb3⟩
        | true =>
          go_enter Tryz.func9, Tryz.ntmps9
          go_wp2_with fail
          refine (HIN _).out.mono ?_
          rintro e w1 ⟨rfl, rfl⟩
          go_wp2_with fail
          refine (HS1 _ (Below.refl _ _)).out.mono ?_
          rintro e w1 ⟨rfl, hb1⟩
          go_wp2_with fail
          refine (HS2 _ hb1).out.mono ?_
          rintro e w2 ⟨rfl, hb2⟩
          go_wp2_with fail
          refine (HCH _ (bt hb1 hb2)).out.mono ?_
          rintro e w3 ⟨rfl, hb3⟩
          go_wp2_with fail
          refine (HF _ (bt (bt hb1 hb2) hb3)).out.mono ?_
          rintro e w4 ⟨rfl, hb4⟩
          go_wp2
          go_ret
          exact ⟨ret_bool (by rw [HC.out]; cases fo <;> rfl), bt (bt (bt hb1 hb2) hb3) hb4⟩
  · have h7i : (b : Int) - (a : Int) < 7 := by omega
    rw [decide_eq_false h7] at HC
    clear HS1 hr
    go_enter Tryz.func9, Tryz.ntmps9
    go_wp2_with fail
    refine (HIN _).out.mono ?_
    rintro e w1 ⟨rfl, rfl⟩
    go_wp2
    go_ret
    exact ⟨ret_bool HC.out.symm, Below.refl _ _⟩
set_option maxHeartbeats 2000000 in
set_option maxRecDepth 100000 in
theorem RComment16_any (S : Nat → Prop) (A : Option Addr) (n c : Nat) (l : List Int) (a b : Nat) (w : World) (hr : Rd w S 1 A n c (rc l)) (hab : a ≤ b) (hbl : b ≤ l.length) (hl9 : l.length ≤ 1000000000) (hi : I32 l) :
    Calls Tryz.prog 10 #[.slice A n c, .int .i64 a, .int .i64 b] w fun e w' => e = .returned (.bool (commentF l a b)) ∧ Below w.heap.size w w' := by
  obtain rfl := hr.rlen
  have hle := hr.le
  have hmx : c ≤ 9223372036854775807 := hr.max
  have hm : mayF l.length a b = true := by simp [mayF]; omega
  have HIN := fun W => Lib.hid (RMay_any A l.length c a b W)
  simp only [hm] at HIN
  clear hm
  have HC : Hid (commentF l a b = (decide (7 ≤ b - a) && (startsF l a [60, 33, 45, 45] && (startsF l (b - 3) [45, 45, 62] && (((l.drop a).take (b - a)).all isChar && !(findF l (a + 4) (b - 2) [45, 45]).isSome))))) := rfl
  generalize commentF l a b = q at HC ⊢
  by_cases h7 : 7 ≤ b - a
  · have h7i : ¬ (b : Int) - (a : Int) < 7 := by omega
    rw [decide_eq_true h7, Bool.true_and] at HC
    have HS1 : ∀ W, Below w.heap.size w W → Hid (Calls Tryz.prog 42 #[.slice A l.length c, .int .i64 a, .string ⟨#[60, 33, 45, 45]⟩] W fun e w' => e = .returned (.bool (startsF l a [60, 33, 45, 45])) ∧ Below W.heap.size W w') :=
      fun W h => RStarts_any S A l.length c l a ⟨#[60, 33, 45, 45]⟩ W (hr.below h) (by omega) hl9 (by decide) hi
    have HS2 : ∀ W, Below w.heap.size w W → Hid (Calls Tryz.prog 42 #[.slice A l.length c, .int .i64 ((b : Int) - 3), .string ⟨#[45, 45, 62]⟩] W fun e w' => e = .returned (.bool (startsF l (b - 3) [45, 45, 62])) ∧ Below W.heap.size W w') := by
      intro W h
      rw [show ((b : Int) - 3) = ((b - 3 : Nat) : Int) by omega]
      exact RStarts_any S A l.length c l (b - 3) ⟨#[45, 45, 62]⟩ W (hr.below h) (by omega) hl9 (by decide) hi
    obtain ⟨A2, hr2, hsl⟩ := hr.runesLH hab hbl
    have HCH := fun W (h : Below w.heap.size w W) => Lib.hid (RChars16_any S A2 (b - a) (c - a) _ W (hr2.below h) (by simp; omega))
    have HR := Lib.hid hr
    clear hr hr2
    generalize startsF l a [60, 33, 45, 45] = s1 at HS1 HC
    generalize startsF l (b - 3) [45, 45, 62] = s2 at HS2 HC
    generalize ((l.drop a).take (b - a)).all isChar = ch at HCH HC
    cases ch with
    | false =>
      rw [Bool.false_and, Bool.and_false, Bool.and_false] at HC
      go_enter Tryz.func10, Tryz.ntmps10
      go_wp2_with fail
      refine (HIN _).out.mono ?_
      rintro e w1 ⟨rfl, rfl⟩
      go_wp2_with fail
      refine (HCH _ (Below.refl _ _)).out.mono ?_
      rintro e w1 ⟨rfl, rfl⟩
      go_wp2
      go_ret
      exact ⟨ret_bool HC.out.symm, Below.refl _ _⟩
    | true =>
      cases s1 with
      | false =>
        go_enter Tryz.func10, Tryz.ntmps10
        go_wp2_with fail
        refine (HIN _).out.mono ?_
        rintro e w1 ⟨rfl, rfl⟩
        go_wp2_with fail
        refine (HCH _ (Below.refl _ _)).out.mono ?_
        rintro e w1 ⟨rfl, rfl⟩
        go_wp2_with fail
        refine (HS1 _ (Below.refl _ _)).out.mono ?_
        rintro e w1 ⟨rfl, hb1⟩
        go_wp2
        go_ret
        exact ⟨ret_bool HC.out.symm, hb1⟩
      | true =>
        cases s2 with
        | false =>
          go_enter Tryz.func10, Tryz.ntmps10
          go_wp2_with fail
          refine (HIN _).out.mono ?_
          rintro e w1 ⟨rfl, rfl⟩
          go_wp2_with fail
          refine (HCH _ (Below.refl _ _)).out.mono ?_
          rintro e w1 ⟨rfl, rfl⟩
          go_wp2_with fail
          refine (HS1 _ (Below.refl _ _)).out.mono ?_
          rintro e w1 ⟨rfl, hb1⟩
          go_wp2_with fail
          refine (HS2 _ hb1).out.mono ?_
          rintro e w2 ⟨rfl, hb2⟩
          go_wp2
          go_ret
          exact ⟨ret_bool HC.out.symm, bt hb1 hb2⟩
        | true =>
          rw [Bool.true_and, Bool.true_and, Bool.true_and] at HC
          go_enter Tryz.func10, Tryz.ntmps10
          go_wp2_with fail
          refine (HIN _).out.mono ?_
          rintro e w1 ⟨rfl, rfl⟩
          go_wp2_with fail
          refine (HCH _ (Below.refl _ _)).out.mono ?_
          rintro e w1 ⟨rfl, rfl⟩
          go_wp2_with fail
          refine (HS1 _ (Below.refl _ _)).out.mono ?_
          rintro e w1 ⟨rfl, hb1⟩
          go_wp2_with fail
          refine (HS2 _ hb1).out.mono ?_
          rintro e w2 ⟨rfl, hb2⟩
          have HB := Lib.hid (bt hb1 hb2)
          clear hb1 hb2 HS1 HS2 HCH HIN hsl
          go_wp2
          go_loopw [7] (fun i wr => wr = w2 ∧ ∃ j : Nat, a + 4 ≤ j ∧ j ≤ b ∧ i = .int .i64 j ∧ Hid (∀ i, a + 4 ≤ i → i < j → startsF l i [45, 45] = false)) (fun i _ => b - (intOf i).toNat)
          case atStart => exact ⟨rfl, a + 4, by omega, by omega, by go_num, fun i h1 h2 => absurd h2 (by omega)⟩
          case round =>
            obtain ⟨rfl, j, hj1, hj2, rfl, HJ⟩ := hrel
            by_cases hlt : j + 1 < b - 2
            · have hlti : (j : Int) + 1 < (b : Int) - 2 := by omega
              have hjl : j < l.length := by omega
              have hjl1 : j + 1 < l.length := by omega
              have hjli : (j : Int) + 1 < (l.length : Int) := by omega
              obtain ⟨bk, o, rfl, hc0⟩ := (HR.out.below HB.out).rune hjl
              obtain ⟨bk2, o2, hA, hc1⟩ := (HR.out.below HB.out).rune hjl1
              injection hA with hA
              injection hA with e1 e2
              subst e1 e2
              have hst := starts_two l j 45 45 (by decide) (by decide) hjl1
              have HN := Lib.hid (fun (h : startsF l j [45, 45] = true) => (by
                have := findF_none l (a + 4) (b - 2) [45, 45]
                cases hf : findF l (a + 4) (b - 2) [45, 45] with
                | some v => rfl
                | none =>
                  rw [findF, List.find?_eq_none] at hf
                  exact absurd h (hf j (List.mem_range'_1.2 ⟨hj1, by simp; omega⟩)) : (findF l (a + 4) (b - 2) [45, 45]).isSome = true))
              have HJ2 := Lib.hid (fun (h : startsF l j [45, 45] = false) => (fun i h1 h2 => by
                by_cases e : i = j
                · subst e; exact h
                · exact HJ.out i h1 (by omega) : ∀ i, a + 4 ≤ i → i < j + 1 → startsF l i [45, 45] = false))
              simp only [hst] at HN HJ2
              clear hst
              generalize l[j] = x at hc0 HN HJ2
              generalize l[j + 1] = y at hc1 HN HJ2
              by_cases hx : x = 45
              · subst hx
                by_cases hy : y = 45
                · subst hy
                  have HE : Hid (q = false) := by rw [Hid, HC.out, HN.out rfl]; rfl
                  clear HN HJ2
                  go_wp2
                  go_ret
                  exact ⟨ret_bool HE.out.symm, HB.out⟩
                · have hyb : (y == 45) = false := by simpa using hy
                  have HJ3 := HJ2.out (by simpa using hy)
                  clear HN HJ2
                  go_wp2
                  go_roundw
                  case rel => exact ⟨trivial, j + 1, by omega, by omega, by go_num, HJ3⟩
                  case measure => simp [intOf]; omega
              · have hxb : (x == 45) = false := by simpa using hx
                have HJ3 := HJ2.out (by simp [hxb])
                clear HN HJ2
                go_wp2
                go_roundw
                case rel => exact ⟨trivial, j + 1, by omega, by omega, by go_num, HJ3⟩
                case measure => simp [intOf]; omega
            · have hlti : ¬ (j : Int) + 1 < (b : Int) - 2 := by omega
              have HE : Hid (q = true) := by
                rw [Hid, HC.out, findF_none l (a + 4) (b - 2) [45, 45] fun i h1 h2 => HJ.out i h1 (by simp at h2; omega)]; rfl
              go_wp2
              go_ret
              exact ⟨ret_bool HE.out.symm, HB.out⟩
  · have h7i : (b : Int) - (a : Int) < 7 := by omega
    rw [decide_eq_false h7] at HC
    clear hr
    go_enter Tryz.func10, Tryz.ntmps10
    go_wp2_with fail
    refine (HIN _).out.mono ?_
    rintro e w1 ⟨rfl, rfl⟩
    go_wp2
    go_ret
    exact ⟨ret_bool HC.out.symm, Below.refl _ _⟩
end Go.Proofs.YtlnojpllgclgfaaGreat
namespace Go.Proofs.YtlnojpllgclgfaaGreat
open Go.RowKit Go.Lib
def bytesF (l : List Int) : List UInt8 := l.flatMap runeF
def linesF : List Int → List Int
  | [] => []
  | r :: t => if r = 13 then 10 :: (match t with | [] => [] | x :: t' => if x = 10 then linesF t' else linesF (x :: t')) else r :: linesF t
theorem linesF_cons (r : Int) (t : List Int) (h : r ≠ 13) : linesF (r :: t) = r :: linesF t := by rw [linesF.eq_def]; simp only; rw [if_neg h]
theorem linesF_end : linesF [13] = [10] := by rw [linesF.eq_def]; rfl
theorem linesF_ten (t : List Int) : linesF (13 :: 10 :: t) = 10 :: linesF t := by rw [linesF.eq_def]; rfl
theorem linesF_other (x : Int) (t : List Int) (h : x ≠ 10) : linesF (13 :: x :: t) = 10 :: linesF (x :: t) := by rw [linesF.eq_def]; simp [h]
theorem linesF_skip (t : List Int) : linesF (13 :: 10 :: t) = linesF (10 :: t) := by rw [linesF_ten, linesF_cons 10 t (by decide)]
theorem enc8_rune (r : Int) (h : 0 < widthF r) : enc8 r = encodeRune r := by
  unfold widthF at h
  split at h
  · omega
  · rename_i h1
    have hv : Utf8.valid r = true := by simp [Utf8.valid]; omega
    by_cases h2 : r < 128
    · rw [enc8_small r (by omega) h2, encodeRune, encodeRuneZ_one (by omega) (by omega)]; rfl
    · unfold enc8 Utf8.encode
      simp only [hv, if_true]
      rw [if_neg (by omega)]
      by_cases h3 : r < 2048
      · rw [if_pos (by omega), encodeRune, encodeRuneZ_two (by omega) (by omega)]
        simp only [List.map_cons, List.map_nil]
        rw [show ((192 + r / 64).toNat) = 192 + r.toNat / 64 by omega, show ((128 + r % 64).toNat) = 128 + r.toNat % 64 by omega]
      · rw [if_neg (by omega)]
        by_cases h4 : r < 65536
        · rw [if_pos (by omega), encodeRune, encodeRuneZ_three (by omega)]
          simp only [List.map_cons, List.map_nil]
          rw [show ((224 + r / 4096).toNat) = 224 + r.toNat / 4096 by omega, show ((128 + r / 64 % 64).toNat) = 128 + r.toNat / 64 % 64 by omega, show ((128 + r % 64).toNat) = 128 + r.toNat % 64 by omega]
        · rw [if_neg (by omega), encodeRune, encodeRuneZ_four (by omega) (by omega)]
          simp only [List.map_cons, List.map_nil]
          rw [show ((240 + r / 262144).toNat) = 240 + r.toNat / 262144 by omega, show ((128 + r / 4096 % 64).toNat) = 128 + r.toNat / 4096 % 64 by omega, show ((128 + r / 64 % 64).toNat) = 128 + r.toNat / 64 % 64 by omega, show ((128 + r % 64).toNat) = 128 + r.toNat % 64 by omega]
theorem runeF_len (r : Int) : (runeF r).length ≤ 4 := by
  unfold runeF
  split
  · simp
  · rw [enc_width r (by omega)]; unfold widthF; repeat' split
    all_goals omega
theorem runeF_enc (r : Int) (h : 0 < widthF r) : (Utf8.encode r).data.toList = runeF r := by rw [runeF, if_neg (by omega)]; exact enc8_rune r h
theorem bytesF_len (l : List Int) : (bytesF l).length ≤ 4 * l.length := by
  induction l with
  | nil => simp [bytesF]
  | cons r t ih =>
    have := runeF_len r
    simp only [bytesF, List.flatMap_cons, List.length_append, List.length_cons] at ih ⊢
    omega
theorem bytesF_step (l : List Int) (k : Nat) (h : k < l.length) : bytesF (l.take (k + 1)) = bytesF (l.take k) ++ runeF l[k] := by
  rw [bytesF, bytesF, List.take_succ_eq_append_getElem h, List.flatMap_append]; simp
theorem Tryz.info5 : (Tryz.prog.info? 5).map (fun i => (i.zero, i.size, i.bytes)) = some (some (.int .u8 0), 1, 1) := by kernel_rfl
theorem append_bytes (w : World) {ops : Array Oper} {rest : List Oper} {o : Oper} {a : Act} {Q : Exit → Act → World → Prop} (hgd : o.guard = none) (s x : Operand)
    (ho : o.op = .call { callee := .builtin .append, args := #[s, x], argTypes := #[49, 49] })
    (base : Nat) (v : Value) (n : Nat) (xs : List UInt8) (hs : a.eval s = v) (hown : w.ownsRow base 5 1 v n (bc xs))
    (S : Nat → Prop) (A : Option Addr) (m c : Nat) (ys : List UInt8) (hx : a.eval x = .slice A m c) (hr : Rd w S 1 A m c (bc ys))
    (hlen : n + m ≤ 1000000000) (hbase : base ≤ w.heap.size)
    (h : ∀ A' c' w', w'.ownsRow base 5 1 (.slice A' (n + m) c') (n + m) (bc (xs ++ ys)) → w.grownBy w' v.ownBlock →
      c' ≤ 9223372036854775807 → wpList Tryz.prog ops Q rest (a.put o.dst (.slice A' (n + m) c')) w') :
    wpList Tryz.prog ops Q (o :: rest) a w := by
  obtain ⟨i0, hi, hz0, hz1, hz2⟩ := info_parts Tryz.info5
  refine wpList_append_rd w hgd s x 49 ho base 5 i0 _ 1 1 Tryz.underlying49 hi hz0 hz1 hz2 rfl (by omega) v n (bc xs) hs hown S A m c (bc ys) hx hr (bc_one ys) (by simp only [maxLen]; omega) (by omega) hbase ?_
  intro v' w' h1 h2 h3
  obtain ⟨A', c', rfl, hr'⟩ := own_form h1
  exact h A' c' w' (by simpa [bc] using h1) h2 hr'.max
theorem append_str (w : World) {ops : Array Oper} {rest : List Oper} {o : Oper} {a : Act} {Q : Exit → Act → World → Prop} (hgd : o.guard = none) (s x : Operand)
    (ho : o.op = .call { callee := .builtin .append, args := #[s, x], argTypes := #[49, 9] })
    (base : Nat) (v : Value) (n : Nat) (xs : List UInt8) (hs : a.eval s = v) (hown : w.ownsRow base 5 1 v n (bc xs))
    (str : ByteArray) (hx : a.eval x = .string str) (hlen : n + str.size ≤ 1000000000) (hbase : base ≤ w.heap.size)
    (h : ∀ A' c' w', w'.ownsRow base 5 1 (.slice A' (n + str.size) c') (n + str.size) (bc (xs ++ str.data.toList)) → w.grownBy w' v.ownBlock →
      c' ≤ 9223372036854775807 → wpList Tryz.prog ops Q rest (a.put o.dst (.slice A' (n + str.size) c')) w') :
    wpList Tryz.prog ops Q (o :: rest) a w := by
  obtain ⟨i0, hi, hz0, hz1, hz2⟩ := info_parts Tryz.info5
  refine wpList_append_own_string w hgd s x 49 9 ho base 5 i0 Tryz.underlying49 Tryz.underlying9 hi hz0 hz1 hz2 v n (bc xs) hs hown str hx (by simp only [maxLen]; omega) (by omega) hbase ?_
  intro v' w' h1 h2 h3
  obtain ⟨A', c', rfl, hr'⟩ := own_form h1
  exact h A' c' w' (by simpa [bc, strCells] using h1) h2 hr'.max
theorem bc_own_len {w : World} {base : Nat} {e : TypeId} {v : Value} {n : Nat} {xs : List UInt8} (h : w.ownsRow base e 1 v n (bc xs)) : n = xs.length := by have := h.1; simpa using this.symm
set_option maxHeartbeats 1000000 in
set_option maxRecDepth 100000 in
theorem Bytes_any (S : Nat → Prop) (A : Option Addr) (n c : Nat) (l : List Int) (w : World) (hr : Rd w S 1 A n c (rc l)) (hn9 : l.length ≤ 100000000) :
    Calls Tryz.prog 33 #[.slice A n c] w fun e w' => ∃ v, e = .returned v ∧ (∃ n', w'.ownsRow w.heap.size 5 1 v n' (bc (bytesF l))) ∧ Below w.heap.size w w' := by
  obtain rfl := hr.rlen
  have hle := hr.le
  have hmx : c ≤ 9223372036854775807 := hr.max
  have HR := Lib.hid hr
  clear hr
  go_enter Tryz.func33, Tryz.ntmps33
  go_wp2
  go_loopw [3, 8] (fun v i wr => ∃ (k : Nat), k ≤ l.length ∧ i = .int .i64 k ∧ Hid (∃ n', wr.ownsRow w.heap.size 5 1 v n' (bc (bytesF (l.take k)))) ∧ Hid (Below w.heap.size w wr))
    (fun _ i _ => l.length - (intOf i).toNat)
  case atStart => exact ⟨0, Nat.zero_le _, rfl, ⟨0, World.ownsRow_nil w w.heap.size 5 1⟩, Below.refl _ _⟩
  case round =>
    obtain ⟨k, hk, rfl, HO, HB⟩ := hrel
    obtain ⟨no, HO⟩ := HO.out
    have hno := bc_own_len HO
    have hno2 : no ≤ 400000000 := by have := bytesF_len (l.take k); simp at this; omega
    clear hno
    obtain ⟨Ao, co, rfl, hro⟩ := own_form HO
    have hco2 : co ≤ 9223372036854775807 := hro.max
    have HO := Lib.hid HO
    clear hro
    by_cases hlt : k < l.length
    · obtain ⟨b, u, rfl, hc0⟩ := (HR.out.below HB.out).rune hlt
      have HST := Lib.hid (bytesF_step l k hlt)
      have HW := fun w => Lib.hid (Width_any l[k] w)
      have HE := Lib.hid (runeF_enc l[k])
      have hes := runeF_len l[k]
      have HZ := Lib.hid (fun (h : widthF l[k] = 0) => (by rw [runeF, if_pos h] : runeF l[k] = []))
      generalize l[k] = r at hc0 HST HW HE hes HZ
      by_cases h0 : widthF r = 0
      · have hw0 : ¬ ((widthF r : Nat) : Int) > 0 := by omega
        have HZ2 := Lib.hid (HZ.out h0)
        clear HZ HE h0
        generalize widthF r = wd at HW hw0
        go_wp2_with (go_at_call 62; refine (HW _).out.mono ?_; rintro e w' ⟨rfl, rfl⟩)
        go_roundw
        case rel => exact ⟨k + 1, by omega, by go_num, ⟨_, by rw [HST.out, HZ2.out, List.append_nil]; exact HO.out⟩, HB.out⟩
        case measure => simp [intOf]; omega
      · have hw0 : ((widthF r : Nat) : Int) > 0 := by omega
        have HE2 := Lib.hid (HE.out (by omega))
        have hsz : (Utf8.encode r).size ≤ 4 := by
          have e : (Utf8.encode r).data.toList.length = (Utf8.encode r).size := by simp
          rw [← e, HE2.out]; exact hes
        clear HZ HE h0
        generalize widthF r = wd at HW hw0
        go_wp2_with (first
          | (go_at_call 62; refine (HW _).out.mono ?_; rintro e w' ⟨rfl, rfl⟩)
          | (at_builtin
             refine append_str _ rfl (.tmp 15) (.tmp 17) rfl w.heap.size _ _ _ rfl HO.out (Utf8.encode r) rfl (by omega) HB.out.size ?_
             intro A4 c4 w4 hown4 hg4 _
             have hb4 := below_own HB.out HB.out.size HO.out hg4
             rw [HE2.out] at hown4
             have HB4 := Lib.hid hb4
             have HO4 := Lib.hid hown4
             clear hown4 hg4 hb4))
        go_roundw
        case rel => exact ⟨k + 1, by omega, by go_num, ⟨_, by rw [HST.out]; exact HO4.out⟩, HB4.out⟩
        case measure => simp [intOf]; omega
    · have e : l.take k = l := List.take_of_length_le (by omega)
      rw [e] at HO
      go_wp2
      go_ret
      exact ⟨_, rfl, ⟨_, HO.out⟩, HB.out⟩
set_option maxHeartbeats 1000000 in
set_option maxRecDepth 100000 in
theorem RBytes_any (S : Nat → Prop) (A : Option Addr) (n c : Nat) (l : List Int) (w : World) (hr : Rd w S 1 A n c (rc l)) (hn9 : l.length ≤ 100000000) (hi : I32 l) :
    Calls Tryz.prog 44 #[.slice A n c] w fun e w' => ∃ v, e = .returned v ∧ (∃ n', w'.ownsRow w.heap.size 5 1 v n' (bc (bytesF l))) ∧ Below w.heap.size w w' := by
  obtain rfl := hr.rlen
  have hle := hr.le
  have hmx : c ≤ 9223372036854775807 := hr.max
  have HR := Lib.hid hr
  have HI := Lib.hid hi
  clear hr hi
  go_enter Tryz.func44, Tryz.ntmps44
  go_wp2
  go_loopw [3, 8] (fun v i wr => ∃ (k : Nat), k ≤ l.length ∧ i = .int .i64 k ∧ Hid (∃ n', wr.ownsRow w.heap.size 5 1 v n' (bc (bytesF (l.take k)))) ∧ Hid (Below w.heap.size w wr))
    (fun _ i _ => l.length - (intOf i).toNat)
  case atStart => exact ⟨0, Nat.zero_le _, rfl, ⟨0, World.ownsRow_nil w w.heap.size 5 1⟩, Below.refl _ _⟩
  case round =>
    obtain ⟨k, hk, rfl, HO, HB⟩ := hrel
    obtain ⟨no, HO⟩ := HO.out
    have hno := bc_own_len HO
    have hno2 : no ≤ 400000000 := by have := bytesF_len (l.take k); simp at this; omega
    clear hno
    obtain ⟨Ao, co, rfl, hro⟩ := own_form HO
    have hco2 : co ≤ 9223372036854775807 := hro.max
    have HO := Lib.hid HO
    clear hro
    by_cases hlt : k < l.length
    · obtain ⟨b, u, rfl, hc0⟩ := (HR.out.below HB.out).rune hlt
      have HST := Lib.hid (bytesF_step l k hlt)
      have hri := HI.out _ (List.getElem_mem hlt)
      have HW := fun w => Lib.hid (Rune_any l[k] w hri.1 hri.2)
      have hes := runeF_len l[k]
      clear hri
      generalize l[k] = r at hc0 HST HW hes
      generalize runeF r = rb at HST HW hes
      go_wp2_with fail
      refine (HW _).out.mono ?_
      rintro e w2 ⟨v2, rfl, ⟨A2, n2, c2, rfl, hr2⟩, hb2⟩
      obtain rfl := bc_len hr2
      have HO2 := Lib.hid (own_below HO.out hb2)
      have HB2 := Lib.hid (HB.out.trans (hb2.mono HB.out.size))
      have HR2 := Lib.hid hr2
      clear hr2 hb2 HO
      go_wp2_with (first
        | (at_builtin
           refine append_bytes _ rfl (.tmp 12) (.tmp 14) rfl w.heap.size _ no _ rfl HO2.out _ A2 rb.length c2 rb rfl HR2.out (by omega) HB2.out.size ?_
           intro A4 c4 w4 hown4 hg4 _
           have hb4 := below_own HB2.out HB2.out.size HO2.out hg4
           have HB4 := Lib.hid hb4
           have HO4 := Lib.hid hown4
           clear hown4 hg4 hb4))
      go_roundw
      case rel => exact ⟨k + 1, by omega, by go_num, ⟨_, by rw [HST.out]; exact HO4.out⟩, HB4.out⟩
      case measure => simp [intOf]; omega
    · have e : l.take k = l := List.take_of_length_le (by omega)
      rw [e] at HO
      go_wp2
      go_ret
      exact ⟨_, rfl, ⟨_, HO.out⟩, HB.out⟩
end Go.Proofs.YtlnojpllgclgfaaGreat
namespace Go.Proofs.YtlnojpllgclgfaaGreat
open Go.RowKit Go.Lib
theorem drop_two (l : List Int) (k : Nat) (h : k + 1 < l.length) : l.drop k = l[k] :: l[k + 1] :: l.drop (k + 2) := by
  rw [List.drop_eq_getElem_cons (by omega), List.drop_eq_getElem_cons h]
theorem drop_last (l : List Int) (k : Nat) (h : k + 1 = l.length) : l.drop k = [l[k]] := by
  rw [List.drop_eq_getElem_cons (by omega), List.drop_eq_nil_of_le (by omega)]
set_option maxHeartbeats 2000000 in
set_option maxRecDepth 100000 in
theorem Lines_any (S : Nat → Prop) (A : Option Addr) (n c : Nat) (l : List Int) (w : World) (hr : Rd w S 1 A n c (rc l)) (hn9 : l.length ≤ 100000000) :
    Calls Tryz.prog 39 #[.slice A n c] w fun e w' => ∃ v, e = .returned v ∧ (∃ n', w'.ownsRow w.heap.size 21 1 v n' (rc (linesF l))) ∧ Below w.heap.size w w' := by
  obtain rfl := hr.rlen
  have hle := hr.le
  have hmx : c ≤ 9223372036854775807 := hr.max
  have HR := Lib.hid hr
  clear hr
  go_enter Tryz.func39, Tryz.ntmps39
  go_wp2
  go_loopw [3, 8] (fun v i wr => ∃ (k : Nat) (acc : List Int), k ≤ l.length ∧ i = .int .i64 k ∧ acc.length ≤ k ∧ Hid (acc ++ linesF (l.drop k) = linesF l) ∧ Hid (∃ n', wr.ownsRow w.heap.size 21 1 v n' (rc acc)) ∧ Hid (Below w.heap.size w wr))
    (fun _ i _ => l.length - (intOf i).toNat)
  case atStart => exact ⟨0, [], Nat.zero_le _, rfl, Nat.le_refl _, rfl, ⟨0, World.ownsRow_nil w w.heap.size 21 1⟩, Below.refl _ _⟩
  case round =>
    obtain ⟨k, acc, hk, rfl, hal, HS, HO, HB⟩ := hrel
    obtain ⟨no, HO⟩ := HO.out
    obtain rfl := rc_own_len HO
    obtain ⟨Ao, co, rfl, hro⟩ := own_form HO
    have hco2 : co ≤ 9223372036854775807 := hro.max
    have HO := Lib.hid HO
    clear hro
    by_cases hlt : k < l.length
    · obtain ⟨b, u, rfl, hc0⟩ := (HR.out.below HB.out).rune hlt
      have hd := List.drop_eq_getElem_cons hlt
      by_cases h13 : l[k] = 13
      · by_cases hl1 : k + 1 = l.length
        · have HS2 : Hid ((acc ++ [10]) ++ linesF (l.drop (k + 1)) = linesF l) := by
            rw [Hid, ← HS.out, drop_last l k hl1, h13, linesF_end, List.drop_eq_nil_of_le (by omega)]; simp [linesF]
          have hli : (k : Int) + 1 = (l.length : Int) := by omega
          have hlb : ((k : Int) + 1 == (l.length : Int)) = true := by rw [hli]; simp
          generalize l[k] = r at hc0 h13
          subst h13
          clear hd
          go_wp2_with (first
            | (at_builtin
               refine append_runes _ rfl (.tmp 34) (.tmp 35) rfl w.heap.size _ acc.length _ rfl ((HO.out.alloc _)) _ _ 1 1 [10] rfl (Rd.litN _ wr.heap.size rfl _ #[.int .i32 10] 1 1 rfl (by decide)) (by omega) (by have := HB.out.size; simp; omega) ?_
               intro A4 c4 w4 hown4 hg4 _ _
               have hb4 := below_own (HB.out.alloc HB.out.size _) (by have := HB.out.size; simp; omega) (HO.out.alloc _) hg4
               have HB4 := Lib.hid hb4
               have HO4 := Lib.hid hown4
               clear hown4 hg4 hb4))
          go_roundw
          case rel => exact ⟨k + 1, acc ++ [10], by omega, by go_num, by simp; omega, HS2.out, ⟨_, HO4.out⟩, HB4.out⟩
          case measure => simp [intOf]; omega
        · have hl2 : k + 1 < l.length := by omega
          have hli : ¬ (k : Int) + 1 = (l.length : Int) := by omega
          have hli2 : (k : Int) + 1 < (l.length : Int) := by omega
          have hlb : ((k : Int) + 1 == (l.length : Int)) = false := by rw [beq_eq_false_iff_ne]; exact hli
          obtain ⟨b2, u2, hA, hc1⟩ := (HR.out.below HB.out).rune hl2
          injection hA with hA
          injection hA with e1 e2
          subst e1 e2
          by_cases h10 : l[k + 1] = 10
          · have HS2 : Hid (acc ++ linesF (l.drop (k + 1)) = linesF l) := by
              rw [Hid, ← HS.out, drop_two l k hl2, h13, List.drop_eq_getElem_cons hl2, h10, linesF_skip]
            generalize l[k] = r at hc0 h13
            subst h13
            generalize l[k + 1] = r1 at hc1 h10
            subst h10
            clear hd
            go_wp2
            go_roundw
            case rel => exact ⟨k + 1, acc, by omega, by go_num, by omega, HS2.out, ⟨_, HO.out⟩, HB.out⟩
            case measure => simp [intOf]; omega
          · have HS2 : Hid ((acc ++ [10]) ++ linesF (l.drop (k + 1)) = linesF l) := by
              rw [Hid, ← HS.out, drop_two l k hl2, h13, linesF_other _ _ h10, List.drop_eq_getElem_cons hl2]; simp
            have hnb : (l[k + 1] != 10) = true := by simpa using h10
            generalize l[k] = r at hc0 h13
            subst h13
            generalize l[k + 1] = r1 at hc1 hnb
            clear hd h10
            go_wp2_with (first
              | (at_builtin
                 refine append_runes _ rfl (.tmp 34) (.tmp 35) rfl w.heap.size _ acc.length _ rfl ((HO.out.alloc _)) _ _ 1 1 [10] rfl (Rd.litN _ wr.heap.size rfl _ #[.int .i32 10] 1 1 rfl (by decide)) (by omega) (by have := HB.out.size; simp; omega) ?_
                 intro A4 c4 w4 hown4 hg4 _ _
                 have hb4 := below_own (HB.out.alloc HB.out.size _) (by have := HB.out.size; simp; omega) (HO.out.alloc _) hg4
                 have HB4 := Lib.hid hb4
                 have HO4 := Lib.hid hown4
                 clear hown4 hg4 hb4))
            go_roundw
            case rel => exact ⟨k + 1, acc ++ [10], by omega, by go_num, by simp; omega, HS2.out, ⟨_, HO4.out⟩, HB4.out⟩
            case measure => simp [intOf]; omega
      · have HS2 : Hid ((acc ++ [l[k]]) ++ linesF (l.drop (k + 1)) = linesF l) := by
          rw [Hid, ← HS.out, hd, linesF_cons _ _ h13]; simp
        have hnb : (l[k] != 13) = true := by simpa using h13
        clear hd h13
        generalize l[k] = r at hc0 HS2 hnb
        go_wp2_with (first
          | (at_builtin
             refine append_runes _ rfl (.tmp 16) (.tmp 18) rfl w.heap.size _ acc.length _ rfl ((HO.out.alloc _)) _ _ 1 1 [r] rfl (Rd.litN _ wr.heap.size rfl _ #[.int .i32 r] 1 1 rfl (by decide)) (by omega) (by have := HB.out.size; simp; omega) ?_
             intro A4 c4 w4 hown4 hg4 _ _
             have hb4 := below_own (HB.out.alloc HB.out.size _) (by have := HB.out.size; simp; omega) (HO.out.alloc _) hg4
             have HB4 := Lib.hid hb4
             have HO4 := Lib.hid hown4
             clear hown4 hg4 hb4))
        go_roundw
        case rel => exact ⟨k + 1, acc ++ [r], by omega, by go_num, by simp; omega, HS2.out, ⟨_, HO4.out⟩, HB4.out⟩
        case measure => simp [intOf]; omega
    · have e : l.drop k = [] := List.drop_eq_nil_of_le (by omega)
      have HE : Hid (acc = linesF l) := by rw [Hid, ← HS.out, e]; simp [linesF]
      go_wp2
      go_ret
      exact ⟨_, rfl, ⟨_, by rw [← HE.out]; exact HO.out⟩, HB.out⟩
set_option maxHeartbeats 2000000 in
set_option maxRecDepth 100000 in
theorem RLines_any (S : Nat → Prop) (A : Option Addr) (n c : Nat) (l : List Int) (w : World) (hr : Rd w S 1 A n c (rc l)) (hn9 : l.length ≤ 100000000) :
    Calls Tryz.prog 48 #[.slice A n c] w fun e w' => ∃ v, e = .returned v ∧ (∃ n', w'.ownsRow w.heap.size 21 1 v n' (rc (linesF l))) ∧ Below w.heap.size w w' := by
  obtain rfl := hr.rlen
  have hle := hr.le
  have hmx : c ≤ 9223372036854775807 := hr.max
  have HR := Lib.hid hr
  clear hr
  go_enter Tryz.func48, Tryz.ntmps48
  go_wp2
  go_loopw [3, 4] (fun v i wr => ∃ (k : Nat) (acc : List Int), k ≤ l.length ∧ i = .int .i64 k ∧ acc.length ≤ k ∧ Hid (acc ++ linesF (l.drop k) = linesF l) ∧ Hid (∃ n', wr.ownsRow w.heap.size 21 1 v n' (rc acc)) ∧ Hid (Below w.heap.size w wr))
    (fun _ i _ => l.length - (intOf i).toNat)
  case atStart => exact ⟨0, [], Nat.zero_le _, rfl, Nat.le_refl _, rfl, ⟨0, World.ownsRow_nil w w.heap.size 21 1⟩, Below.refl _ _⟩
  case round =>
    obtain ⟨k, acc, hk, rfl, hal, HS, HO, HB⟩ := hrel
    obtain ⟨no, HO⟩ := HO.out
    obtain rfl := rc_own_len HO
    obtain ⟨Ao, co, rfl, hro⟩ := own_form HO
    have hco2 : co ≤ 9223372036854775807 := hro.max
    have HO := Lib.hid HO
    clear hro
    by_cases hlt : k < l.length
    · obtain ⟨b, u, rfl, hc0⟩ := (HR.out.below HB.out).rune hlt
      have hd := List.drop_eq_getElem_cons hlt
      by_cases h13 : l[k] = 13
      · by_cases hl1 : k + 1 = l.length
        · have HS2 : Hid ((acc ++ [10]) ++ linesF (l.drop (k + 1)) = linesF l) := by
            rw [Hid, ← HS.out, drop_last l k hl1, h13, linesF_end, List.drop_eq_nil_of_le (by omega)]; simp [linesF]
          have hli : ¬ (k : Int) + 1 < (l.length : Int) := by omega
          generalize l[k] = r at hc0 h13
          subst h13
          clear hd
          go_wp2_with (first
            | (at_builtin
               refine append_runes _ rfl (.tmp 33) (.tmp 35) rfl w.heap.size _ acc.length _ rfl ((HO.out.alloc _)) _ _ 1 1 [10] rfl (Rd.litN _ wr.heap.size rfl _ #[.int .i32 10] 1 1 rfl (by decide)) (by omega) (by have := HB.out.size; simp; omega) ?_
               intro A4 c4 w4 hown4 hg4 _ _
               have hb4 := below_own (HB.out.alloc HB.out.size _) (by have := HB.out.size; simp; omega) (HO.out.alloc _) hg4
               have HB4 := Lib.hid hb4
               have HO4 := Lib.hid hown4
               clear hown4 hg4 hb4))
          go_roundw
          case rel => exact ⟨k + 1, acc ++ [10], by omega, by go_num, by simp; omega, HS2.out, ⟨_, HO4.out⟩, HB4.out⟩
          case measure => simp [intOf]; omega
        · have hl2 : k + 1 < l.length := by omega
          have hli2 : (k : Int) + 1 < (l.length : Int) := by omega
          obtain ⟨b2, u2, hA, hc1⟩ := (HR.out.below HB.out).rune hl2
          injection hA with hA
          injection hA with e1 e2
          subst e1 e2
          by_cases h10 : l[k + 1] = 10
          · have HS2 : Hid ((acc ++ [10]) ++ linesF (l.drop (k + 2)) = linesF l) := by
              rw [Hid, ← HS.out, drop_two l k hl2, h13, h10, linesF_ten]; simp
            generalize l[k] = r at hc0 h13
            subst h13
            generalize l[k + 1] = r1 at hc1 h10
            subst h10
            clear hd
            go_wp2_with (first
              | (at_builtin
                 refine append_runes _ rfl (.tmp 33) (.tmp 35) rfl w.heap.size _ acc.length _ rfl ((HO.out.alloc _)) _ _ 1 1 [10] rfl (Rd.litN _ wr.heap.size rfl _ #[.int .i32 10] 1 1 rfl (by decide)) (by omega) (by have := HB.out.size; simp; omega) ?_
                 intro A4 c4 w4 hown4 hg4 _ _
                 have hb4 := below_own (HB.out.alloc HB.out.size _) (by have := HB.out.size; simp; omega) (HO.out.alloc _) hg4
                 have HB4 := Lib.hid hb4
                 have HO4 := Lib.hid hown4
                 clear hown4 hg4 hb4))
            go_roundw
            case rel => exact ⟨k + 2, acc ++ [10], by omega, by go_num, by simp; omega, HS2.out, ⟨_, HO4.out⟩, HB4.out⟩
            case measure => simp [intOf]; omega
          · have HS2 : Hid ((acc ++ [10]) ++ linesF (l.drop (k + 1)) = linesF l) := by
              rw [Hid, ← HS.out, drop_two l k hl2, h13, linesF_other _ _ h10, List.drop_eq_getElem_cons hl2]; simp
            have hnb : (l[k + 1] == 10) = false := by simpa using h10
            generalize l[k] = r at hc0 h13
            subst h13
            generalize l[k + 1] = r1 at hc1 hnb
            clear hd h10
            go_wp2_with (first
              | (at_builtin
                 refine append_runes _ rfl (.tmp 33) (.tmp 35) rfl w.heap.size _ acc.length _ rfl ((HO.out.alloc _)) _ _ 1 1 [10] rfl (Rd.litN _ wr.heap.size rfl _ #[.int .i32 10] 1 1 rfl (by decide)) (by omega) (by have := HB.out.size; simp; omega) ?_
                 intro A4 c4 w4 hown4 hg4 _ _
                 have hb4 := below_own (HB.out.alloc HB.out.size _) (by have := HB.out.size; simp; omega) (HO.out.alloc _) hg4
                 have HB4 := Lib.hid hb4
                 have HO4 := Lib.hid hown4
                 clear hown4 hg4 hb4))
            go_roundw
            case rel => exact ⟨k + 1, acc ++ [10], by omega, by go_num, by simp; omega, HS2.out, ⟨_, HO4.out⟩, HB4.out⟩
            case measure => simp [intOf]; omega
      · have HS2 : Hid ((acc ++ [l[k]]) ++ linesF (l.drop (k + 1)) = linesF l) := by
          rw [Hid, ← HS.out, hd, linesF_cons _ _ h13]; simp
        have hnb : (l[k] == 13) = false := by simpa using h13
        clear hd h13
        generalize l[k] = r at hc0 HS2 hnb
        go_wp2_with (first
          | (at_builtin
             refine append_runes _ rfl (.tmp 33) (.tmp 35) rfl w.heap.size _ acc.length _ rfl ((HO.out.alloc _)) _ _ 1 1 [r] rfl (Rd.litN _ wr.heap.size rfl _ #[.int .i32 r] 1 1 rfl (by decide)) (by omega) (by have := HB.out.size; simp; omega) ?_
             intro A4 c4 w4 hown4 hg4 _ _
             have hb4 := below_own (HB.out.alloc HB.out.size _) (by have := HB.out.size; simp; omega) (HO.out.alloc _) hg4
             have HB4 := Lib.hid hb4
             have HO4 := Lib.hid hown4
             clear hown4 hg4 hb4))
        go_roundw
        case rel => exact ⟨k + 1, acc ++ [r], by omega, by go_num, by simp; omega, HS2.out, ⟨_, HO4.out⟩, HB4.out⟩
        case measure => simp [intOf]; omega
    · have e : l.drop k = [] := List.drop_eq_nil_of_le (by omega)
      have HE : Hid (acc = linesF l) := by rw [Hid, ← HS.out, e]; simp [linesF]
      go_wp2
      go_ret
      exact ⟨_, rfl, ⟨_, by rw [← HE.out]; exact HO.out⟩, HB.out⟩
end Go.Proofs.YtlnojpllgclgfaaGreat
namespace Go.Proofs.YtlnojpllgclgfaaGreat
open Go.RowKit Go.Lib
def lowB (b : UInt8) : UInt8 := if 65 ≤ b.toNat ∧ b.toNat ≤ 90 then UInt8.ofNat (b.toNat + 32) else b
def lowerF (l : List UInt8) : List UInt8 := l.map lowB
def xmlF (l : List UInt8) : Bool := lowerF l == [120, 109, 108]
def plainF (l : List UInt8) : Bool := nameF l && !l.contains 58
theorem indexByte_has (c : UInt8) : ∀ l : List UInt8, (0 ≤ Lib.indexByte l c) ↔ l.contains c = true
  | [] => by simp [Lib.indexByte]
  | b :: l => by
    have ih := indexByte_has c l
    have hg := Lib.indexByte_ge l c
    unfold Lib.indexByte
    by_cases hb : b = c
    · subst hb; simp
    · rw [if_neg (by simpa using hb)]
      simp only [List.contains_cons]
      rw [show (c == b) = false by simpa using fun h => hb h.symm, Bool.false_or, ← ih]
      split
      · rename_i h; have := beq_iff_eq.1 h; omega
      · rename_i h; have h : ¬ Lib.indexByte l c = -1 := by simpa using h
        omega
set_option maxHeartbeats 1000000 in
set_option maxRecDepth 100000 in
theorem IndexByteS_any (s : ByteArray) (c : Int) (w : World) :
    Calls Tryz.prog 124 #[.string s, .int .u8 c] w fun e w' => e = .returned (.int .i64 (Lib.indexByte s.data.toList c.toNat.toUInt8)) ∧ w = w' := by
  go_enter Tryz.func124, Tryz.ntmps124
  go_wp2
  rw [run_callFunc_extern Tryz.func144 (by kernel_rfl) (by kernel_rfl) (by kernel_rfl) (e := Extern.BytealgIndexByte.indexByte) (by kernel_rfl), Lib.run_indexByteString]
  simp only [Result.andThen]
  rw [Oper.upon_value]
  go_wp2
  go_ret
  exact ⟨rfl, rfl⟩
set_option maxHeartbeats 2000000 in
set_option maxRecDepth 100000 in
theorem IndexLite_any (s : ByteArray) (c : UInt8) (w : World) :
    Calls Tryz.prog 106 #[.string s, .string ⟨#[c]⟩] w fun e w' => ∃ k : Int, e = .returned (.int .i64 k) ∧ (0 ≤ k ↔ s.data.toList.contains c = true) ∧ w = w' := by
  have HI := fun W => Lib.hid (IndexByteS_any s c.toNat W)
  have hc : ((c.toNat : Int)).toNat.toUInt8 = c := by simp
  rw [hc] at HI
  have HX := Lib.hid (indexByte_has c s.data.toList)
  have HS := Lib.hid (show ([c] == s.toList) = true → (0 ≤ (0 : Int) ↔ s.data.toList.contains c = true) from fun h => by
    have e : s.data.toList = [c] := by rw [← ByteArray.toList_eq]; exact (beq_iff_eq.1 h).symm
    rw [e]; simp)
  generalize Lib.indexByte s.data.toList c = q at HI HX
  go_enter Tryz.func106, Tryz.ntmps106
  go_wp2_with (go_at_call 124; refine (HI _).out.mono ?_; rintro e w' ⟨rfl, rfl⟩)
  · have h : ([c] == s.toList) = true := by assumption
    go_ret
    exact ⟨0, rfl, HS.out h, rfl⟩
  · go_ret
    exact ⟨q, rfl, HX.out, rfl⟩
set_option maxHeartbeats 1000000 in
set_option maxRecDepth 100000 in
theorem IndexStr_any (s : ByteArray) (c : UInt8) (w : World) :
    Calls Tryz.prog 82 #[.string s, .string ⟨#[c]⟩] w fun e w' => ∃ k : Int, e = .returned (.int .i64 k) ∧ (0 ≤ k ↔ s.data.toList.contains c = true) ∧ w = w' := by
  have HI := fun W => Lib.hid (IndexLite_any s c W)
  go_enter Tryz.func82, Tryz.ntmps82
  go_wp2_with fail
  refine (HI _).out.mono ?_
  rintro e w' ⟨k, rfl, hk, rfl⟩
  have HK := Lib.hid hk
  clear hk
  go_wp2
  go_ret
  exact ⟨k, rfl, HK.out, rfl⟩
set_option maxHeartbeats 1000000 in
set_option maxRecDepth 100000 in
theorem ContainsStr_any (s : ByteArray) (c : UInt8) (w : World) :
    Calls Tryz.prog 64 #[.string s, .string ⟨#[c]⟩] w fun e w' => e = .returned (.bool (s.data.toList.contains c)) ∧ w = w' := by
  have HI := fun W => Lib.hid (IndexStr_any s c W)
  go_enter Tryz.func64, Tryz.ntmps64
  go_wp2_with fail
  refine (HI _).out.mono ?_
  rintro e w' ⟨k, rfl, hk, rfl⟩
  have HK := Lib.hid hk
  clear hk
  go_wp2
  go_ret
  refine ⟨ret_bool ?_, rfl⟩
  rw [Bool.eq_iff_iff, ← HK.out, decide_eq_true_iff]
set_option maxHeartbeats 1000000 in
set_option maxRecDepth 100000 in
theorem Plain_any (s : ByteArray) (w : World) (hlen : s.size ≤ 300000000) :
    Calls Tryz.prog 34 #[.string s] w fun e w' => e = .returned (.bool (plainF s.data.toList)) ∧ Below w.heap.size w w' := by
  have HN := Lib.hid (NName_any s w hlen)
  have HC := fun W => Lib.hid (ContainsStr_any s 58 W)
  have HQ : Hid (plainF s.data.toList = (nameF s.data.toList && !s.data.toList.contains 58)) := rfl
  generalize plainF s.data.toList = q at HQ ⊢
  generalize nameF s.data.toList = a at HN HQ
  generalize s.data.toList.contains 58 = b at HC HQ
  cases a with
  | true =>
    go_enter Tryz.func34, Tryz.ntmps34
    go_wp2_with fail
    refine HN.out.mono ?_
    rintro e w1 ⟨rfl, hb1⟩
    have HB := Lib.hid hb1
    clear hb1
    go_wp2_with fail
    refine (HC _).out.mono ?_
    rintro e w2 ⟨rfl, rfl⟩
    go_wp2
    go_ret
    exact ⟨ret_bool (by rw [HQ.out]; rfl), HB.out⟩
  | false =>
    go_enter Tryz.func34, Tryz.ntmps34
    go_wp2_with fail
    refine HN.out.mono ?_
    rintro e w1 ⟨rfl, hb1⟩
    have HB := Lib.hid hb1
    clear hb1
    go_wp2
    go_ret
    exact ⟨ret_bool (by rw [HQ.out]; rfl), HB.out⟩
theorem contains_upto (l : List UInt8) (c : UInt8) (k : Nat) (h : (l.take k).contains c = false) (hk : k < l.length) (hn : l[k] ≠ c) : (l.take (k + 1)).contains c = false := by
  rw [List.take_succ_eq_append_getElem hk]
  simp only [List.contains_eq_mem, decide_eq_false_iff_not, List.mem_append, List.mem_singleton] at h ⊢
  rintro (h2 | h2)
  · exact h h2
  · exact hn h2.symm
set_option maxHeartbeats 1000000 in
set_option maxRecDepth 100000 in
theorem RColon_any (s : ByteArray) (w : World) (hlen : s.size ≤ 300000000) :
    Calls Tryz.prog 70 #[.string s] w fun e w' => ∃ k : Int, e = .returned (.int .i64 k) ∧ (0 ≤ k ↔ s.data.toList.contains 58 = true) ∧ w = w' := by
  have hsz : s.data.toList.length = s.size := by simp
  go_enter Tryz.func70, Tryz.ntmps70
  go_wp2
  go_loopw [3] (fun i wr => wr = w ∧ ∃ k : Nat, k ≤ s.size ∧ i = .int .i64 k ∧ Hid ((s.data.toList.take k).contains 58 = false)) (fun i _ => s.size - (intOf i).toNat)
  case atStart => exact ⟨rfl, 0, Nat.zero_le _, rfl, rfl⟩
  case round =>
    obtain ⟨rfl, k, hk, rfl, HA⟩ := hrel
    by_cases hlt : k < s.size
    · have hlt2 : k < s.data.toList.length := by omega
      have hlt3 : k < s.data.size := hlt
      have hx : s.data.toList[k] = s.data[k] := by simp
      by_cases h58 : s.data[k] = 58
      · have HE : Hid (s.data.toList.contains 58 = true) := by rw [Hid, List.contains_iff_mem, ← h58, ← hx]; exact List.getElem_mem hlt2
        have hb : (((s[k]).toNat : Int) == 58) = true := by
          show (((s.data[k]).toNat : Int) == 58) = true
          rw [h58]; rfl
        clear h58 hx
        go_wp2
        go_ret
        exact ⟨(k : Int), rfl, ⟨fun _ => HE.out, fun _ => by omega⟩, rfl⟩
      · have HE : Hid ((s.data.toList.take (k + 1)).contains 58 = false) := contains_upto _ _ _ HA.out hlt2 (by rw [hx]; exact h58)
        have hb : (((s[k]).toNat : Int) == 58) = false := by
          show (((s.data[k]).toNat : Int) == 58) = false
          rw [beq_eq_false_iff_ne]
          intro h
          exact h58 (UInt8.toNat_inj.1 (by have : ((58 : UInt8).toNat : Int) = 58 := rfl
                                           omega))
        clear h58 hx
        go_wp2
        go_roundw
        case rel => exact ⟨trivial, k + 1, by omega, by go_num, HE.out⟩
        case measure => simp [intOf]; omega
    · have HE : Hid (s.data.toList.contains 58 = false) := by
        have e : s.data.toList.take k = s.data.toList := List.take_of_length_le (by omega)
        rw [Hid, ← HA.out, e]
      go_wp2
      go_ret
      exact ⟨-1, rfl, ⟨fun h => absurd h (by omega), fun h => by rw [HE.out] at h; cases h⟩, rfl⟩
set_option maxHeartbeats 1000000 in
set_option maxRecDepth 100000 in
theorem RPlain_any (s : ByteArray) (w : World) (hlen : s.size ≤ 300000000) :
    Calls Tryz.prog 45 #[.string s] w fun e w' => e = .returned (.bool (plainF s.data.toList)) ∧ Below w.heap.size w w' := by
  have HN := Lib.hid (RName_any s w hlen)
  have HC := fun W => Lib.hid (RColon_any s W hlen)
  have HQ : Hid (plainF s.data.toList = (nameF s.data.toList && !s.data.toList.contains 58)) := rfl
  generalize plainF s.data.toList = q at HQ ⊢
  generalize nameF s.data.toList = a at HN HQ
  generalize s.data.toList.contains 58 = b at HC HQ
  cases a with
  | true =>
    go_enter Tryz.func45, Tryz.ntmps45
    go_wp2_with fail
    refine HN.out.mono ?_
    rintro e w1 ⟨rfl, hb1⟩
    have HB := Lib.hid hb1
    clear hb1
    go_wp2_with fail
    refine (HC _).out.mono ?_
    rintro e w2 ⟨k, rfl, hk, rfl⟩
    have HK := Lib.hid hk
    clear hk
    go_wp2
    go_ret
    refine ⟨ret_bool ?_, HB.out⟩
    rw [HQ.out, Bool.true_and]
    have hk := HK.out
    cases b with
    | true => have := hk.2 rfl; simp; omega
    | false =>
      have : ¬ 0 ≤ k := fun h => by cases hk.1 h
      simp; omega
  | false =>
    go_enter Tryz.func45, Tryz.ntmps45
    go_wp2_with fail
    refine HN.out.mono ?_
    rintro e w1 ⟨rfl, hb1⟩
    have HB := Lib.hid hb1
    clear hb1
    go_wp2
    go_ret
    exact ⟨ret_bool (by rw [HQ.out]; rfl), HB.out⟩
end Go.Proofs.YtlnojpllgclgfaaGreat
namespace Go.Proofs.YtlnojpllgclgfaaGreat
open Go.RowKit Go.Lib
theorem Rd.setB {w : World} {S : Nat → Prop} {n c : Nat} {xs : List Value} {b o : Nat} (h : Rd w S 1 (some ⟨b, o, none⟩) n c xs) {k : Nat} (hk : k < n) (v : Value) :
    Rd (w.setCell ⟨b, o + k, none⟩ v) S 1 (some ⟨b, o, none⟩) n c (xs.set k v) := by
  have hlen := h.len
  refine ⟨by simpa using h.len, h.le, h.max, (fun e => by cases e), fun h0 => ?_⟩
  obtain ⟨b', o', e, hS, hc⟩ := h.at_ h0
  injection e with e
  injection e with e1 e2
  subst e1 e2
  refine ⟨b, o, rfl, hS, fun j u hu => ?_⟩
  have hkl : k < xs.length := by omega
  by_cases hj : k = j
  · subst hj
    rw [List.getElem?_set_self hkl] at hu
    injection hu with hu
    subst hu
    exact World.cell?_setCell_same _ _ _ (hc k _ (List.getElem?_eq_getElem hkl))
  · rw [List.getElem?_set_ne hj] at hu
    rw [World.cell?_setCell_other]
    · exact hc j u hu
    · intro e
      injection e with _ e
      omega
def lowTo (l : List UInt8) (k : Nat) : List UInt8 := lowerF (l.take k) ++ l.drop k
theorem lowTo_get (l : List UInt8) (k : Nat) (h : k < l.length) : (lowTo l k)[k]? = some l[k] := by
  have hl : (lowerF (l.take k)).length = k := by simp [lowerF]; omega
  rw [lowTo, List.getElem?_append_right (by omega), List.drop_eq_getElem_cons h, hl, Nat.sub_self]
  rfl
theorem lowTo_step (l : List UInt8) (k : Nat) (h : k < l.length) : lowTo l (k + 1) = (lowTo l k).set k (lowB l[k]) := by
  have hl : (lowerF (l.take k)).length = k := by simp [lowerF]; omega
  rw [lowTo, lowTo, List.drop_eq_getElem_cons h, List.set_append_right _ _ (by omega), List.take_succ_eq_append_getElem h, hl, Nat.sub_self]
  simp only [lowerF, List.map_append, List.map_cons, List.map_nil, List.set_cons_zero, List.append_assoc, List.cons_append, List.nil_append]
theorem lowTo_same (l : List UInt8) (k : Nat) (h : k < l.length) (hs : lowB l[k] = l[k]) : lowTo l (k + 1) = lowTo l k := by
  rw [lowTo_step l k h, hs]
  obtain ⟨h2, e⟩ := List.getElem?_eq_some_iff.1 (lowTo_get l k h)
  rw [← e, List.set_getElem_self]
theorem bc_set (l : List UInt8) (k : Nat) (b : UInt8) : (bc l).set k (.int .u8 b.toNat) = bc (l.set k b) := by simp [bc, List.map_set]
theorem run_string_bytes2 {P : Program} (w : World) (s : ByteArray) (src dst e : TypeId) (hs : P.underlying src = some .string) (hd : P.underlying dst = some (.slice e)) (he : P.underlying e = some (.int .u8))
    (hlen : s.size ≤ 1000000000) :
    ∃ b o c w', (convert src dst (.string s)).run P w = .ok (.slice (some ⟨b, o, none⟩) s.size c) w' ∧ Rd w' (fun b => w.heap.size ≤ b) 1 (some ⟨b, o, none⟩) s.size c (bc s.data.toList) ∧ w.heap.size ≤ b ∧ (∀ j, j < s.size → w'.frozen? ⟨b, o + j, none⟩ = false) ∧ Below w.heap.size w w' ∧ c ≤ 9223372036854775807 := by
  have hge := grownCap_ge w s.size 0 e
  have hmx := grownCap_le_maxLen w s.size 0 e (by unfold maxLen; omega)
  refine ⟨_, _, _, _, run_bytes_of_string w src dst e s hs hd he, ?_, Nat.le_refl _, ?_, (Below.refl _ w).drew.alloc (Nat.le_refl _) _, hmx⟩
  · refine ⟨by simp [bc], hge, hmx, (fun h => by cases h), fun _ => ⟨_, _, rfl, Nat.le_refl _, fun j u hu => ?_⟩⟩
    obtain ⟨hj, rfl⟩ := bc_get hu
    have hj2 : j < s.data.size := by simpa using hj
    rw [Nat.zero_add]
    refine (World.cell?_alloc_mark w.drew (bytesRow s (grownCap w s.size 0 e)) e _ j).trans ?_
    rw [bytesRow, Array.getElem?_append_left (by simpa using hj2)]
    simp only [Array.getElem?_map, Array.getElem?_eq_getElem hj2, Option.map_some, Array.getElem_toList]
  · intro j hj
    have hz : s.size ≤ (bytesRow s (grownCap w s.size 0 e)).size := by
      have e : s.size = s.data.size := rfl
      rw [bytesRow, Array.size_append, e]
      simp [-ByteArray.size_data]
    have hh : (w.drew.alloc (.cells (bytesRow s (grownCap w s.size 0 e)) e ((bytesRow s (grownCap w s.size 0 e)).size, (bytesRow s (grownCap w s.size 0 e)).size + 1))).heap[w.heap.size]? = some (.cells (bytesRow s (grownCap w s.size 0 e)) e ((bytesRow s (grownCap w s.size 0 e)).size, (bytesRow s (grownCap w s.size 0 e)).size + 1)) := by
      show (w.heap.push _)[w.heap.size]? = _
      simp
    unfold World.frozen?
    rw [hh]
    simp
    omega
set_option maxHeartbeats 2000000 in
set_option maxRecDepth 100000 in
theorem Lower_any (s : ByteArray) (w : World) (hlen : s.size ≤ 300000000) :
    Calls Tryz.prog 35 #[.string s] w fun e w' => e = .returned (.string ⟨(lowerF s.data.toList).toArray⟩) ∧ Below w.heap.size w w' := by
  obtain ⟨b, o, c0, w1, hcv, hr, hbb0, hfz, hb, hc0⟩ := run_string_bytes2 (P := Tryz.prog) w s 9 49 5 Tryz.underlying9 Tryz.underlying49 Tryz.underlying5 (by omega)
  have hll : s.data.toList.length = s.size := by simp
  generalize s.data.toList = l at hr hll ⊢
  have hle := hr.le
  have HR : Hid (Rd w1 (fun b => w.heap.size ≤ b) 1 (some ⟨b, o, none⟩) s.size c0 (bc (lowTo l 0))) := hr
  have HB1 := Lib.hid hb
  have HF1 := Lib.hid hfz
  clear hr hb hfz
  go_enter Tryz.func35, Tryz.ntmps35
  go_wp2
  go_loopw [10] (fun i wr => ∃ (k : Nat), k ≤ s.size ∧ i = .int .i64 k ∧ Hid (Rd wr (fun b => w.heap.size ≤ b) 1 (some ⟨b, o, none⟩) s.size c0 (bc (lowTo l k))) ∧ Hid (∀ j, j < s.size → wr.frozen? ⟨b, o + j, none⟩ = false) ∧ Hid (Below w.heap.size w wr))
    (fun i _ => s.size - (intOf i).toNat)
  case atStart => exact ⟨0, Nat.zero_le _, rfl, HR.out, HF1.out, HB1.out⟩
  case round =>
    obtain ⟨k, hk, rfl, HK, HF, HB⟩ := hrel
    by_cases hlt : k < s.size
    · have hlt2 : k < l.length := by omega
      obtain ⟨b', o', hA, hS, hc⟩ := HK.out.at_ (by omega)
      injection hA with hA
      injection hA with e1 e2
      subst e1 e2
      have hc1 : wr.cell? ⟨b, o + k, none⟩ = some (.int .u8 (l[k]).toNat) := hc k _ (by rw [bc, List.getElem?_map, lowTo_get l k hlt2]; rfl)
      have hfk := HF.out k hlt
      have HST := Lib.hid (lowTo_step l k hlt2)
      have HSM := Lib.hid (lowTo_same l k hlt2)
      have hbb := (l[k]).toNat_lt
      clear hc
      by_cases hq : 65 ≤ (l[k]).toNat ∧ (l[k]).toNat ≤ 90
      · have HL : Hid (lowB l[k] = UInt8.ofNat ((l[k]).toNat + 32)) := by rw [Hid, lowB, if_pos hq]
        generalize l[k] = x at hc1 HST HSM hbb hq HL
        have hx1 : ((x.toNat : Nat) : Int) ≥ 65 := by omega
        have hx2 : ((x.toNat : Nat) : Int) ≤ 90 := by omega
        have HX := Lib.hid (show ((x.toNat : Nat) : Int) + 97 - 65 = (((UInt8.ofNat (x.toNat + 32)).toNat : Nat) : Int) by rw [UInt8.toNat_ofNat']; omega)
        clear HSM
        go_wp2
        rw [HX.out]
        go_roundw
        case rel =>
          refine ⟨k + 1, by omega, by go_num, ?_, fun j hj => ?_, HB.out.setCell hbb0 _⟩
          · rw [HST.out, HL.out, ← bc_set]
            exact HK.out.setB hlt _
          · rw [World.frozen?_setCell]; exact HF.out j hj
        case measure => simp [intOf]; omega
      · have HL : Hid (lowB l[k] = l[k]) := by rw [Hid, lowB, if_neg hq]
        have HE := Lib.hid (HSM.out HL.out)
        generalize l[k] = x at hc1 HST hbb hq
        clear HSM HL HST
        by_cases hx1 : ((x.toNat : Nat) : Int) ≥ 65
        · have hx2 : ¬ ((x.toNat : Nat) : Int) ≤ 90 := by omega
          go_wp2
          go_roundw
          case rel => exact ⟨k + 1, by omega, by go_num, by rw [HE.out]; exact HK.out, HF.out, HB.out⟩
          case measure => simp [intOf]; omega
        · go_wp2
          go_roundw
          case rel => exact ⟨k + 1, by omega, by go_num, by rw [HE.out]; exact HK.out, HF.out, HB.out⟩
          case measure => simp [intOf]; omega
    · have e : lowTo l k = lowerF l := by rw [lowTo, List.take_of_length_le (by omega), List.drop_eq_nil_of_le (by omega), List.append_nil]
      rw [e] at HK
      have hcv2 := run_bytes_string HK.out 49 9 5 Tryz.underlying49 Tryz.underlying5 Tryz.underlying9 (P := Tryz.prog)
      go_wp2
      go_ret
      exact ⟨rfl, HB.out⟩
theorem byte_all (p : UInt8 → Prop) [DecidablePred p] (h : ∀ n : Fin 256, p (UInt8.ofNat n.val)) (a : UInt8) : p a := by
  have := h ⟨a.toNat, a.toNat_lt⟩
  rwa [show UInt8.ofNat a.toNat = a by simp] at this
theorem xml_three (a b c : UInt8) : xmlF [a, b, c] = (((decide (a = 120) || decide (a = 88)) && (decide (b = 109) || decide (b = 77))) && (decide (c = 108) || decide (c = 76))) := by
  have h1 : ∀ a : UInt8, decide (lowB a = 120) = (decide (a = 120) || decide (a = 88)) := fun a => byte_all (fun a => decide (lowB a = 120) = (decide (a = 120) || decide (a = 88))) (by decide +kernel) a
  have h2 : ∀ a : UInt8, decide (lowB a = 109) = (decide (a = 109) || decide (a = 77)) := fun a => byte_all (fun a => decide (lowB a = 109) = (decide (a = 109) || decide (a = 77))) (by decide +kernel) a
  have h3 : ∀ a : UInt8, decide (lowB a = 108) = (decide (a = 108) || decide (a = 76)) := fun a => byte_all (fun a => decide (lowB a = 108) = (decide (a = 108) || decide (a = 76))) (by decide +kernel) a
  rw [← h1, ← h2, ← h3, Bool.eq_iff_iff]
  simp [xmlF, lowerF, and_assoc]
set_option maxHeartbeats 2000000 in
set_option maxRecDepth 100000 in
theorem RXml_any (s : ByteArray) (w : World) : Calls Tryz.prog 46 #[.string s] w fun e w' => e = .returned (.bool (xmlF s.data.toList)) ∧ w = w' := by
  have hsz : s.data.toList.length = s.size := by simp
  by_cases h3 : s.size = 3
  · have h3i : ((s.size : Int) == 3) = true := by rw [h3]; rfl
    have hd0 : 0 < s.data.size := by show 0 < s.size; omega
    have hd1 : 1 < s.data.size := by show 1 < s.size; omega
    have hd2 : 2 < s.data.size := by show 2 < s.size; omega
    have hl : s.data.toList = [s.data[0], s.data[1], s.data[2]] := by
      apply List.ext_getElem
      · simp; omega
      · intro i h1 h2
        rw [Array.getElem_toList]
        have hi : i = 0 ∨ i = 1 ∨ i = 2 := by simp at h2; omega
        rcases hi with rfl | rfl | rfl <;> rfl
    have HX := Lib.hid ((congrArg xmlF hl).trans (xml_three _ _ _))
    generalize xmlF s.data.toList = q at HX ⊢
    have hk : ∀ (x : UInt8) (n : Nat), n < 256 → (((x.toNat : Nat) : Int) == (n : Int)) = decide (x = UInt8.ofNat n) := fun x n hn => by
      rw [Bool.eq_iff_iff, beq_iff_eq, decide_eq_true_iff, ← UInt8.toNat_inj, UInt8.toNat_ofNat']
      omega
    have e0 : (((s[0]'hd0).toNat : Int) == 120) = decide (s.data[0] = 120) := hk _ 120 (by omega)
    have e1 : (((s[0]'hd0).toNat : Int) == 88) = decide (s.data[0] = 88) := hk _ 88 (by omega)
    have e2 : (((s[1]'hd1).toNat : Int) == 109) = decide (s.data[1] = 109) := hk _ 109 (by omega)
    have e3 : (((s[1]'hd1).toNat : Int) == 77) = decide (s.data[1] = 77) := hk _ 77 (by omega)
    have e4 : (((s[2]'hd2).toNat : Int) == 108) = decide (s.data[2] = 108) := hk _ 108 (by omega)
    have e5 : (((s[2]'hd2).toNat : Int) == 76) = decide (s.data[2] = 76) := hk _ 76 (by omega)
    generalize decide (s.data[0] = 120) = p0 at HX e0
    generalize decide (s.data[0] = 88) = p1 at HX e1
    generalize decide (s.data[1] = 109) = p2 at HX e2
    generalize decide (s.data[1] = 77) = p3 at HX e3
    generalize decide (s.data[2] = 108) = p4 at HX e4
    generalize decide (s.data[2] = 76) = p5 at HX e5
    clear hk hl
    go_enter Tryz.func46, Tryz.ntmps46
    cases p0 <;> cases p2 <;> cases p4 <;> cases p1 <;> cases p3 <;> cases p5
    all_goals (go_wp2; go_ret; exact ⟨ret_bool HX.out.symm, rfl⟩)
  · have h3i : ((s.size : Int) == 3) = false := by rw [beq_eq_false_iff_ne]; omega
    have HX : Hid (xmlF s.data.toList = false) := by
      rw [Hid, xmlF, beq_eq_false_iff_ne]
      intro h
      have := congrArg List.length h
      simp [lowerF] at this
      omega
    go_enter Tryz.func46, Tryz.ntmps46
    go_wp2
    go_ret
    exact ⟨ret_bool HX.out.symm, rfl⟩
end Go.Proofs.YtlnojpllgclgfaaGreat
namespace Go.Proofs.YtlnojpllgclgfaaGreat
open Go.RowKit Go.Lib
def midF (l : List Int) (a b : Nat) : List Int := (l.drop (a + 2)).take (b - 2 - (a + 2))
def tgtF (m : List Int) : List UInt8 := bytesF (m.take (leadF m 0))
def gapF (m : List Int) : Nat := runF isSpace m (leadF m 0 : Nat)
def piOk (l : List Int) (a b : Nat) : Bool :=
  decide (4 ≤ b - a) && (startsF l a [60, 63] && (startsF l (b - 2) [63, 62] && ((l.drop a).take (b - a)).all isChar))
def piIn (m : List Int) : Bool :=
  plainF (tgtF m) && (!xmlF (tgtF m) && (!(findF m 0 m.length [63, 62]).isSome && !(decide (gapF m = 0) && decide (leadF m 0 < m.length))))
def piF (l : List Int) (a b : Nat) : Option (List UInt8 × List Int) :=
  if piOk l a b && piIn (midF l a b) then some (tgtF (midF l a b), linesF ((midF l a b).drop (leadF (midF l a b) 0 + gapF (midF l a b)))) else none
def PIV (w : World) (r : Option (List UInt8 × List Int)) (e : Ending) : Prop := ∃ s v, e = .returned (.tuple #[.string s, v, .bool r.isSome]) ∧ s.data.toList = (r.map (·.1)).getD [] ∧ RunesV w v ((r.map (·.2)).getD [])
theorem lead_le (m : List Int) : leadF m 0 ≤ m.length := by
  unfold leadF
  split
  · omega
  · split
    · rw [List.drop_zero]; exact (List.takeWhile_sublist _).length_le
    · omega
theorem run_le (p : Int → Bool) (m : List Int) (k : Nat) (hk : k ≤ m.length) : k + runF p m k ≤ m.length := by
  unfold runF
  split
  · omega
  · have := (List.takeWhile_sublist p (l := m.drop (k : Int).toNat)).length_le
    rw [List.length_drop] at this
    omega
theorem mid_len (l : List Int) (a b : Nat) (hb : b ≤ l.length) : (midF l a b).length = b - 2 - (a + 2) := by simp [midF]; omega
theorem piF_no (l : List Int) (a b : Nat) (h : piOk l a b = false) : piF l a b = none := by rw [piF, h]; rfl
theorem piF_no2 (l : List Int) (a b : Nat) (h : piIn (midF l a b) = false) : piF l a b = none := by rw [piF, h, Bool.and_false]; rfl
theorem piF_yes (l : List Int) (a b : Nat) (h : piOk l a b = true) (h2 : piIn (midF l a b) = true) :
    piF l a b = some (tgtF (midF l a b), linesF ((midF l a b).drop (leadF (midF l a b) 0 + gapF (midF l a b)))) := by rw [piF, h, h2]; rfl
theorem PIV.no (w : World) (q : Option (List UInt8 × List Int)) (h : q = none) : PIV w q (.returned (.tuple #[.string ⟨#[]⟩, .slice none 0 0, .bool false])) := by
  subst h
  exact ⟨_, _, rfl, rfl, .nil_ _⟩
set_option maxHeartbeats 4000000 in
set_option maxRecDepth 100000 in
theorem PI16_any (S : Nat → Prop) (A : Option Addr) (n c : Nat) (l : List Int) (a b : Nat) (w : World) (hr : Rd w S 1 A n c (rc l)) (hab : a ≤ b) (hbl : b ≤ l.length) (hl9 : l.length ≤ 10000000) :
    Calls Tryz.prog 7 #[.slice A n c, .int .i64 a, .int .i64 b] w fun e w' => PIV w' (piF l a b) e ∧ Below w.heap.size w w' := by
  obtain rfl := hr.rlen
  have hle := hr.le
  have hmx : c ≤ 9223372036854775807 := hr.max
  have hm : mayF l.length a b = true := by simp [mayF]; omega
  have HIN := fun W => Lib.hid (In_any A l.length c a b W)
  simp only [hm] at HIN
  clear hm
  have HNO := Lib.hid (piF_no l a b)
  have HNO2 := Lib.hid (piF_no2 l a b)
  have HYES := Lib.hid (piF_yes l a b)
  have HOK : Hid (piOk l a b = (decide (4 ≤ b - a) && (startsF l a [60, 63] && (startsF l (b - 2) [63, 62] && ((l.drop a).take (b - a)).all isChar)))) := rfl
  generalize piF l a b = q at HNO HNO2 HYES ⊢
  generalize piOk l a b = ok at HOK HNO HYES
  by_cases h4 : 4 ≤ b - a
  · have h4i : ¬ (b : Int) - (a : Int) < 4 := by omega
    rw [decide_eq_true h4, Bool.true_and] at HOK
    have HS1 : ∀ W, Below w.heap.size w W → Hid (Calls Tryz.prog 29 #[.slice A l.length c, .int .i64 a, .string ⟨#[60, 63]⟩] W fun e w' => e = .returned (.bool (startsF l a [60, 63])) ∧ Below W.heap.size W w') :=
      fun W h => Starts_any S A l.length c l a ⟨#[60, 63]⟩ W (hr.below h) (by omega) (by omega) (by decide)
    have HS2 : ∀ W, Below w.heap.size w W → Hid (Calls Tryz.prog 29 #[.slice A l.length c, .int .i64 ((b : Int) - 2), .string ⟨#[63, 62]⟩] W fun e w' => e = .returned (.bool (startsF l (b - 2) [63, 62])) ∧ Below W.heap.size W w') := by
      intro W h
      rw [show ((b : Int) - 2) = ((b - 2 : Nat) : Int) by omega]
      exact Starts_any S A l.length c l (b - 2) ⟨#[63, 62]⟩ W (hr.below h) (by omega) (by omega) (by decide)
    obtain ⟨A2, hr2, hsl⟩ := hr.runesLH hab hbl
    have HCH := fun W (h : Below w.heap.size w W) => Lib.hid (All_any S A2 (b - a) (c - a) _ _ #[] isChar W eg_Char (hr2.below h) (Char_ok W))
    obtain ⟨A3, hr3, hsl3⟩ := hr.runesLH (j := a + 2) (k := b - 2) (by omega) (by omega)
    rw [show ((a + 2 : Nat) : Int) = (a : Int) + 2 by omega, show ((b - 2 : Nat) : Int) = (b : Int) - 2 by omega] at hsl3
    have hml := mid_len l a b hbl
    have hr3 : Rd w S 1 A3 (b - 2 - (a + 2)) (c - (a + 2)) (rc (midF l a b)) := hr3
    rw [← hml] at hr3 hsl3
    have hm9 : (midF l a b).length ≤ 10000000 := by omega
    have hcm : c - (a + 2) ≤ 9223372036854775807 := by omega
    have hlec := hr3.le
    clear hr hr2 hml
    generalize startsF l a [60, 63] = s1 at HS1 HOK
    generalize startsF l (b - 2) [63, 62] = s2 at HS2 HOK
    generalize ((l.drop a).take (b - a)).all isChar = ch at HCH HOK
    generalize c - (a + 2) = cm at hr3 hsl3 hcm hlec
    generalize midF l a b = m at hr3 hsl3 hm9 HNO2 HYES hlec
    have HR3 := Lib.hid hr3
    have hn := lead_le m
    have hg := run_le isSpace m (leadF m 0) hn
    have HLD := fun W (h : Below w.heap.size w W) => Lib.hid (NLead_any S A3 m.length cm m 0 W (HR3.out.below h) (by omega))
    obtain ⟨A4, hr4, hsl4⟩ := hr3.runesH hn
    have HR4 := Lib.hid hr4
    have htl := bytesF_len (m.take (leadF m 0))
    have HBY := fun W (h : Below w.heap.size w W) => Lib.hid (Bytes_any S A4 (leadF m 0) cm _ W (HR4.out.below h) (by simp; omega))
    have HRUN := fun W (h : Below w.heap.size w W) => Lib.hid (Run_any S A3 m.length cm m (leadF m 0 : Nat) _ #[] isSpace W eg_Space (HR3.out.below h) (Space_ok W))
    have HFI : ∀ W, Below w.heap.size w W → Hid (Calls Tryz.prog 38 #[.slice A3 m.length cm, .int .i64 0, .int .i64 m.length, .string ⟨#[63, 62]⟩] W fun e w' => e = .returned (.tuple #[.int .i64 ((findF m 0 m.length [63, 62]).getD 0), .bool (findF m 0 m.length [63, 62]).isSome]) ∧ Below W.heap.size W w') :=
      fun W h => LFind_any S A3 m.length cm m 0 m.length ⟨#[63, 62]⟩ W (HR3.out.below h) (by omega) (by omega) (by omega) (by decide)
    obtain ⟨A5, hr5, hsl5⟩ := hr3.runesL (k := leadF m 0 + runF isSpace m (leadF m 0 : Nat)) hg
    rw [show ((leadF m 0 + runF isSpace m (leadF m 0 : Nat) : Nat) : Int) = (leadF m 0 : Int) + (runF isSpace m (leadF m 0 : Nat) : Int) by omega] at hsl5
    have HR5 := Lib.hid hr5
    have HLN := fun W (h : Below w.heap.size w W) => Lib.hid (Lines_any S A5 _ _ _ W (HR5.out.below h) (by simp; omega))
    have HIM : Hid (piIn m = (plainF (bytesF (m.take (leadF m 0))) && (!xmlF (bytesF (m.take (leadF m 0))) && (!(findF m 0 m.length [63, 62]).isSome && !(decide (runF isSpace m (leadF m 0 : Nat) = 0) && decide (leadF m 0 < m.length)))))) := rfl
    have HY2 : Hid (ok = true → piIn m = true → q = some (bytesF (m.take (leadF m 0)), linesF (m.drop (leadF m 0 + runF isSpace m (leadF m 0 : Nat))))) := fun h1 h2 => HYES.out h1 h2
    clear hr3 hr4 hr5 HYES
    generalize linesF (m.drop (leadF m 0 + runF isSpace m (leadF m 0 : Nat))) = ln at HLN HY2
    generalize bytesF (m.take (leadF m 0)) = tb at HBY HIM HY2 htl
    generalize runF isSpace m (leadF m 0 : Nat) = sp at HRUN HIM hsl5 HLN hg
    have htb : tb.length ≤ 40000000 := by simp at htl; omega
    obtain ⟨z, hz⟩ : ∃ z : ByteArray, z = ⟨tb.toArray⟩ := ⟨_, rfl⟩
    have hzl : z.data.toList = tb := by rw [hz]
    have hzs : z.size ≤ 300000000 := by rw [hz]; simp [ByteArray.size]; omega
    have HPL := fun W => Lib.hid (Plain_any z W hzs)
    have HLO := fun W => Lib.hid (Lower_any z W hzs)
    rw [hzl] at HPL HLO
    obtain ⟨z2, hz2⟩ : ∃ z2 : ByteArray, z2 = ⟨(lowerF tb).toArray⟩ := ⟨_, rfl⟩
    have hzx : (z2.toList == [120, 109, 108]) = xmlF tb := by rw [ByteArray.toList_eq, hz2]; rfl
    rw [← hz2] at HLO
    generalize xmlF tb = x at HIM hzx
    generalize plainF tb = p at HPL HIM
    generalize (findF m 0 m.length [63, 62]).isSome = fb at HFI HIM
    generalize (findF m 0 m.length [63, 62]).getD 0 = fk at HFI
    generalize leadF m 0 = nn at HLD HBY HRUN HIM hsl4 hsl5 HLN hn hg
    have HZ := Lib.hid hz
    clear htl hz2 hz
    go_enter Tryz.func7, Tryz.ntmps7
    go_wp2_with fail
    refine (HIN _).out.mono ?_
    rintro e w1 ⟨rfl, rfl⟩
    go_wp2_with fail
    refine (HS1 _ (Below.refl _ _)).out.mono ?_
    rintro e w1 ⟨rfl, hb1⟩
    have HB1 := Lib.hid hb1
    clear hb1
    cases s1 with
    | false =>
      go_wp2
      go_ret3
      exact ⟨PIV.no _ _ (HNO.out HOK.out), HB1.out⟩
    | true =>
      go_wp2_with fail
      refine (HS2 _ HB1.out).out.mono ?_
      rintro e w2 ⟨rfl, hb2⟩
      have HB2 := Lib.hid (bt HB1.out hb2)
      clear hb2
      cases s2 with
      | false =>
        go_wp2
        go_ret3
        exact ⟨PIV.no _ _ (HNO.out HOK.out), HB2.out⟩
      | true =>
        go_wp2_with fail
        refine (HCH _ HB2.out).out.mono ?_
        rintro e w3 ⟨rfl, hb3⟩
        have HB3 := Lib.hid (bt HB2.out hb3)
        clear hb3
        cases ch with
        | false =>
          go_wp2
          go_ret3
          exact ⟨PIV.no _ _ (HNO.out HOK.out), HB3.out⟩
        | true =>
          go_wp2_with fail
          refine (HLD _ HB3.out).out.mono ?_
          rintro e w4 ⟨rfl, hb4⟩
          have HB4 := Lib.hid (bt HB3.out hb4)
          clear hb4 HB1 HB2 HB3 HS1 HS2 HCH HLD
          go_wp2_with fail
          refine (HBY _ HB4.out).out.mono ?_
          rintro e w5 ⟨v5, rfl, ⟨n5, ho5⟩, hb5⟩
          obtain ⟨A6, c6, rfl, hr6⟩ := own_form ho5
          have hcv := run_bytes_string hr6 49 9 5 Tryz.underlying49 Tryz.underlying5 Tryz.underlying9 (P := Tryz.prog)
          rw [← HZ.out] at hcv
          have HB5 := Lib.hid (bt HB4.out hb5)
          clear hb5 ho5 hr6 HB4 HBY
          go_wp2_with fail
          refine (HPL _).out.mono ?_
          rintro e w6 ⟨rfl, hb6⟩
          have HB6 := Lib.hid (bt HB5.out hb6)
          clear hb6 hcv
          cases p with
          | false =>
            go_wp2
            go_ret3
            exact ⟨PIV.no _ _ (HNO2.out HIM.out), HB6.out⟩
          | true =>
            go_wp2_with fail
            refine (HLO _).out.mono ?_
            rintro e w7 ⟨rfl, hb7⟩
            have HB7 := Lib.hid (bt HB6.out hb7)
            clear hb7
            cases x with
            | true =>
              go_wp2
              go_ret3
              exact ⟨PIV.no _ _ (HNO2.out HIM.out), HB7.out⟩
            | false =>
              go_wp2_with fail
              refine (HRUN _ HB7.out).out.mono ?_
              rintro e w8 ⟨rfl, hb8⟩
              have HB8 := Lib.hid (bt HB7.out hb8)
              clear hb8
              go_wp2_with fail
              refine (HFI _ HB8.out).out.mono ?_
              rintro e w9 ⟨rfl, hb9⟩
              have HB9 := Lib.hid (bt HB8.out hb9)
              clear hb9 hzx HB5 HB6 HB7 HB8
              cases fb with
              | true =>
                go_wp2
                go_ret3
                exact ⟨PIV.no _ _ (HNO2.out HIM.out), HB9.out⟩
              | false =>
                by_cases hs0 : sp = 0
                · by_cases hnl : nn < m.length
                  · have HF : Hid (piIn m = false) := by rw [Hid, HIM.out, decide_eq_true hs0, decide_eq_true hnl]; rfl
                    have hs0i : ((sp : Int) == 0) = true := by rw [hs0]; rfl
                    clear hs0
                    have hnli : (nn : Int) < (m.length : Int) := by omega
                    go_wp2
                    go_ret3
                    exact ⟨PIV.no _ _ (HNO2.out HF.out), HB9.out⟩
                  · have HF : Hid (piIn m = true) := by rw [Hid, HIM.out, decide_eq_false hnl, Bool.and_false]; rfl
                    have hs0i : ((sp : Int) == 0) = true := by rw [hs0]; rfl
                    clear hs0
                    have hnli : ¬ (nn : Int) < (m.length : Int) := by omega
                    go_wp2_with fail
                    refine (HLN _ HB9.out).out.mono ?_
                    rintro e w10 ⟨v10, rfl, ⟨n10, ho10⟩, hb10⟩
                    have HB10 := Lib.hid (bt HB9.out hb10)
                    have HV := Lib.hid (RunesV.of_own ho10)
                    clear hb10 ho10
                    go_wp2
                    go_ret3
                    refine ⟨?_, HB10.out⟩
                    rw [HY2.out HOK.out HF.out]
                    exact ⟨_, _, rfl, hzl, HV.out⟩
                · have HF : Hid (piIn m = true) := by rw [Hid, HIM.out, decide_eq_false hs0, Bool.false_and]; rfl
                  have hs0i : ((sp : Int) == 0) = false := by rw [beq_eq_false_iff_ne]; omega
                  clear hs0
                  go_wp2_with fail
                  refine (HLN _ HB9.out).out.mono ?_
                  rintro e w10 ⟨v10, rfl, ⟨n10, ho10⟩, hb10⟩
                  have HB10 := Lib.hid (bt HB9.out hb10)
                  have HV := Lib.hid (RunesV.of_own ho10)
                  clear hb10 ho10
                  go_wp2
                  go_ret3
                  refine ⟨?_, HB10.out⟩
                  rw [HY2.out HOK.out HF.out]
                  exact ⟨_, _, rfl, hzl, HV.out⟩
  · have h4i : (b : Int) - (a : Int) < 4 := by omega
    rw [decide_eq_false h4, Bool.false_and] at HOK
    clear hr
    go_enter Tryz.func7, Tryz.ntmps7
    go_wp2_with fail
    refine (HIN _).out.mono ?_
    rintro e w1 ⟨rfl, rfl⟩
    go_wp2
    go_ret3
    exact ⟨PIV.no _ _ (HNO.out HOK.out), Below.refl _ _⟩
end Go.Proofs.YtlnojpllgclgfaaGreat
namespace Go.Proofs.YtlnojpllgclgfaaGreat
open Go.RowKit
def isSpaceR (r : Int) : Bool := r == 9 || r == 10 || r == 13 || r == 32
theorem isSpace_eq (r : Int) : isSpaceR r = isSpace r := by
  unfold isSpaceR isSpace; cases (r == 9) <;> cases (r == 10) <;> cases (r == 13) <;> cases (r == 32) <;> rfl
set_option maxHeartbeats 400000 in
theorem RSpace_any (r : Int) (w : World) : Calls Tryz.prog 47 #[.int .i32 r] w fun e w' => e = .returned (.bool (isSpace r)) ∧ w = w' := by
  rw [← isSpace_eq]
  go_enter Tryz.func47, Tryz.ntmps47
  go_wp2
  all_goals (go_ret; exact ⟨ret_bool (by simp [isSpaceR, *]), rfl⟩)
end Go.Proofs.YtlnojpllgclgfaaGreat
