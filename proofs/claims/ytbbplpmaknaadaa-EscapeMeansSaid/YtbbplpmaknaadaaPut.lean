/-
  Layer 14 (refs): sign, Put: the program's and the document's. Rows of at most 100000000 runes.
-/
import Derived.Test.YtbbplpmaknaadaaName
namespace Go.Proofs.Ytbbplpmaknaadaa
open Go.RowKit Go.Lib

/-- what stands for a rune: the text -/
def signF (r q : Int) (b : Bool) : List UInt8 :=
  if r == 38 then [38, 97, 109, 112, 59] else if r == 60 then [38, 108, 116, 59] else if r == 62 && b then [38, 103, 116, 59] else if r == 13 then [38, 35, 120, 68, 59]
  else if !(q == 34 || q == 39) then [] else if r == q && r == 34 then [38, 113, 117, 111, 116, 59] else if r == q then [38, 97, 112, 111, 115, 59]
  else if r == 9 then [38, 35, 120, 57, 59] else if r == 10 then [38, 35, 120, 65, 59] else []
def two93 (l : List Int) (i : Nat) : Bool := decide (2 ≤ i) && (l.getD (i - 1) 0 == 93) && (l.getD (i - 2) 0 == 93)
def bi (l : List UInt8) : List Int := l.map fun b => (b.toNat : Int)
def signR (l : List Int) (q : Int) (i : Nat) : List Int :=
  (if signF (l.getD i 0) q (two93 l i) = [] then [l.getD i 0] else []) ++ bi (signF (l.getD i 0) q (two93 l i))
def putTo (l : List Int) (q : Int) (k : Nat) : List Int := (List.range k).flatMap (signR l q)
def putF (l : List Int) (q : Int) : List Int := putTo l q l.length

theorem signF_len (r q : Int) (b : Bool) : (signF r q b).length ≤ 6 := by
  unfold signF; repeat' split
  all_goals simp
theorem signF_ascii (r q : Int) (b : Bool) : ∀ x ∈ signF r q b, x.toNat < 128 := by
  unfold signF; repeat' split
  all_goals decide
theorem putTo_succ (l : List Int) (q : Int) (k : Nat) : putTo l q (k + 1) = putTo l q k ++ signR l q k := by simp [putTo, List.range_succ]
theorem signR_len (l : List Int) (q : Int) (i : Nat) : (signR l q i).length ≤ 6 := by
  have h := signF_len (l.getD i 0) q (two93 l i)
  unfold signR
  generalize signF (l.getD i 0) q (two93 l i) = s at h
  split
  · rename_i h0; subst h0; simp [bi]
  · simpa [bi] using h
theorem putTo_len (l : List Int) (q : Int) (k : Nat) : (putTo l q k).length ≤ 6 * k := by
  induction k with
  | zero => simp [putTo]
  | succ k ih => rw [putTo_succ, List.length_append]; have := signR_len l q k; omega

theorem getD_at {l : List Int} {k : Nat} (h : k < l.length) : l.getD k 0 = l[k] := by simp [List.getD, h]

set_option maxHeartbeats 4000000 in
set_option maxRecDepth 100000 in
theorem Sign_any (S : Nat → Prop) (A : Option Addr) (n c : Nat) (l : List Int) (i : Nat) (q : Int) (w : World) (hr : Rd w S 1 A n c (rc l)) (hi : i < l.length) (hi9 : i ≤ 1000000000) :
    Calls Try.prog 74 #[.slice A n c, .int .i64 i, .int .i32 q] w fun e w' => e = .returned (.string ⟨(signF (l.getD i 0) q (two93 l i)).toArray⟩) ∧ w = w' := by
  obtain rfl := hr.rlen
  have hle := hr.le
  have hmx : c ≤ 9223372036854775807 := hr.max
  obtain ⟨b, o, rfl, hc0⟩ := hr.rune hi
  rw [getD_at hi]
  by_cases h2 : 2 ≤ i
  · obtain ⟨b1, o1, hA, hc1⟩ := hr.rune (k := i - 1) (by omega)
    injection hA with hA
    injection hA with e1 e2
    subst e1 e2
    obtain ⟨b2, o2, hA, hc2⟩ := hr.rune (k := i - 2) (by omega)
    injection hA with hA
    injection hA with e1 e2
    subst e1 e2
    have ht : two93 l i = (l[i - 1] == 93 && l[i - 2] == 93) := by rw [two93, decide_eq_true h2, Bool.true_and, getD_at (show i - 1 < l.length by omega), getD_at (show i - 2 < l.length by omega)]
    rw [ht]
    have hi1 : (i : Int) - 1 = ((i - 1 : Nat) : Int) := by omega
    have hi2 : (i : Int) - 2 = ((i - 2 : Nat) : Int) := by omega
    have hg2 : (i : Int) ≥ 2 := by omega
    have hi3 : ((i - 1 : Nat) : Int) < (l.length : Int) := by omega
    have hi4 : ((i - 2 : Nat) : Int) < (l.length : Int) := by omega
    clear ht hr
    generalize l[i] = r at hc0 ⊢
    generalize l[i - 1] = r1 at hc1 ⊢
    generalize l[i - 2] = r2 at hc2 ⊢
    go_enter Try.func74, Try.ntmps74
    go_wp2
    all_goals
      go_ret
      refine ⟨?_, rfl⟩
      simp_all [signF]
  · have ht : two93 l i = false := by simp [two93, h2]
    rw [ht]
    have hg2 : ¬ (i : Int) ≥ 2 := by omega
    clear ht hr
    generalize l[i] = r at hc0 ⊢
    go_enter Try.func74, Try.ntmps74
    go_wp2
    all_goals
      go_ret
      refine ⟨?_, rfl⟩
      simp_all [signF]

end Go.Proofs.Ytbbplpmaknaadaa
