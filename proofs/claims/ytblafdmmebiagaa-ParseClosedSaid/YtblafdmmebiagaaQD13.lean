/-
  Parts of the proof, joined: LxB. Conditions: as each theorem says.
-/
import Derived.Test.YtblafdmmebiagaaQD08
namespace Go.Proofs.Ytblafdmmebiagaa
open Go.RowKit Go.Lib
def upToF (l : List Int) (kd k skip : Nat) (bs : List UInt8) : Nat × Nat × Bool := match findF l (min (k + skip) l.length) l.length bs with
  | none => (kd, l.length, false)
  | some j => (kd, j + bs.length, true)
def endGo (l : List Int) (k : Nat) : Nat × Bool := if h : k < l.length then (if l[k] = 62 then (k + 1, true) else if l[k] = 60 then (k, false) else endGo l (k + 1)) else (l.length, false)
termination_by l.length - k
def endTF (l : List Int) (k : Nat) : Nat × Nat × Bool := (10, (endGo l (k + 2)).1, (endGo l (k + 2)).2)
def startTF (l : List Int) (k : Nat) : Nat × Nat × Bool :=
  if (angleF l true (k + 1)).2 = false then (8, (angleF l true (k + 1)).1, false)
  else if l[(angleF l true (k + 1)).1 - 1]? = some 47 then (9, (angleF l true (k + 1)).1 + 1, true) else (8, (angleF l true (k + 1)).1 + 1, true)
theorem endGo_gt (l : List Int) (k : Nat) (h : k < l.length) (hq : l[k] = 62) : endGo l k = (k + 1, true) := by rw [endGo, dif_pos h, if_pos hq]
theorem endGo_lt (l : List Int) (k : Nat) (h : k < l.length) (hq : l[k] = 60) : endGo l k = (k, false) := by rw [endGo, dif_pos h, if_neg (by rw [hq]; decide), if_pos hq]
theorem endGo_next (l : List Int) (k : Nat) (h : k < l.length) (h1 : l[k] ≠ 62) (h2 : l[k] ≠ 60) : endGo l k = endGo l (k + 1) := by rw [endGo, dif_pos h, if_neg h1, if_neg h2]
theorem endGo_end (l : List Int) (k : Nat) (h : ¬ k < l.length) : endGo l k = (l.length, false) := by rw [endGo, dif_neg h]
set_option maxHeartbeats 2000000 in
set_option maxRecDepth 100000 in
theorem UpTo_any (S : Nat → Prop) (A : Option Addr) (n c : Nat) (l : List Int) (kd k skip : Nat) (s : ByteArray) (w : World) (hr : Rd w S 1 A n c (rc l)) (hk : k ≤ l.length) (hsk : skip ≤ 1000) (hl9 : l.length ≤ 1000000000) (hs9 : s.size ≤ 1000) :
    Calls Try.prog 92 #[.slice A n c, .int .i64 kd, .int .i64 k, .int .i64 skip, .string s] w fun e w' => e = .returned (tokV (upToF l kd k skip s.data.toList) k) ∧ Below w.heap.size w w' := by
  obtain rfl := hr.rlen
  have hle := hr.le
  have hmx : c ≤ 9223372036854775807 := hr.max
  have HR := Lib.hid hr
  clear hr
  have hm : ∀ ts t W, (Builtin.min_ ts t #[.int .i64 ((k : Int) + (skip : Int)), .int .i64 (l.length : Int)]).run Try.prog W = .ok (.int .i64 (min (k + skip) l.length : Nat)) W := fun ts t W => by
    rw [run_min_int2]
    congr 2
    split <;> omega
  have HF := fun W (h : Below w.heap.size w W) => Lib.hid (LFind_any S A l.length c l (min (k + skip) l.length) l.length s W (HR.out.below h) (by omega) (Nat.le_refl _) hl9 (by omega))
  have HT : Hid (upToF l kd k skip s.data.toList = match findF l (min (k + skip) l.length) l.length s.data.toList with
    | none => (kd, l.length, false)
    | some j => (kd, j + s.data.toList.length, true)) := rfl
  have hfl : ∀ j, findF l (min (k + skip) l.length) l.length s.data.toList = some j → j ≤ l.length := fun j h => by
    rw [findF, List.find?_range'_eq_some] at h
    have := List.mem_range'_1.1 h.2.1
    omega
  have HSL := Lib.hid (show s.data.toList.length = s.size by simp)
  generalize upToF l kd k skip s.data.toList = t at HT ⊢
  generalize findF l (min (k + skip) l.length) l.length s.data.toList = q at HF HT hfl
  generalize min (k + skip) l.length = m2 at hm HF
  cases q with
  | none =>
    have HE : Hid (t = (kd, l.length, false)) := HT.out
    clear HT hfl
    go_enter Try.func92, Try.ntmps92
    go_wp2_with fail
    have HTH0 := Lib.hid (there_lit w #[.int .i64 0, .int .i64 0, .int .i64 0, .bool false] 109)
    have HB0 := Lib.hid (ba w (.cells #[.int .i64 0, .int .i64 0, .int .i64 0, .bool false] 109))
    have HSZ : Hid (w.heap.size < (w.alloc (.cells #[.int .i64 0, .int .i64 0, .int .i64 0, .bool false] 109)).heap.size) := by simp [Hid]
    generalize w.alloc (.cells #[.int .i64 0, .int .i64 0, .int .i64 0, .bool false] 109) = W0 at HTH0 HB0 HSZ
    refine (HF _ HB0.out).out.mono ?_
    rintro e w1 ⟨rfl, hb1⟩
    have HB1 := Lib.hid (HB0.out.trans (hb1.mono HB0.out.size))
    have HTH1 : Hid (w1.there w.heap.size 0 4) := there_below HTH0.out hb1 HSZ.out
    clear hb1 HTH0 HSZ
    have HL9 := Lib.hid (load_struct (P := Try.prog) (T := 109) w1 w.heap.size [.int .i64 kd, .int .i64 k, .int .i64 (l.length), .bool false] HTH1.out (by kernel_rfl) Try.underlying109 rfl)
    have HB9 := Lib.hid (below_setCells2 HB1.out w.heap.size (Nat.le_refl _) [.int .i64 kd, .int .i64 k, .int .i64 (l.length), .bool false] 0)
    obtain ⟨⟨z0, hz0⟩, hf0⟩ := there_cell HTH1.out 0 (by decide)
    obtain ⟨⟨z1, hz1⟩, hf1⟩ := there_cell HTH1.out 1 (by decide)
    obtain ⟨⟨z2, hz2⟩, hf2⟩ := there_cell HTH1.out 2 (by decide)
    obtain ⟨⟨z3, hz3⟩, hf3⟩ := there_cell HTH1.out 3 (by decide)
    go_wp2
    refine bodyPost_ret (results_cell1 rfl _ rfl HL9.out) rfl ?_
    rw [HE.out]
    exact ⟨by simp [tokV], HB9.out⟩
  | some j =>
    have HE : Hid (t = (kd, j + s.size, true)) := by rw [Hid, ← HSL.out]; exact HT.out
    have hfl := hfl j rfl
    clear HT
    go_enter Try.func92, Try.ntmps92
    go_wp2_with fail
    have HTH0 := Lib.hid (there_lit w #[.int .i64 0, .int .i64 0, .int .i64 0, .bool false] 109)
    have HB0 := Lib.hid (ba w (.cells #[.int .i64 0, .int .i64 0, .int .i64 0, .bool false] 109))
    have HSZ : Hid (w.heap.size < (w.alloc (.cells #[.int .i64 0, .int .i64 0, .int .i64 0, .bool false] 109)).heap.size) := by simp [Hid]
    generalize w.alloc (.cells #[.int .i64 0, .int .i64 0, .int .i64 0, .bool false] 109) = W0 at HTH0 HB0 HSZ
    refine (HF _ HB0.out).out.mono ?_
    rintro e w1 ⟨rfl, hb1⟩
    have HB1 := Lib.hid (HB0.out.trans (hb1.mono HB0.out.size))
    have HTH1 : Hid (w1.there w.heap.size 0 4) := there_below HTH0.out hb1 HSZ.out
    clear hb1 HTH0 HSZ
    have HL9 := Lib.hid (load_struct (P := Try.prog) (T := 109) w1 w.heap.size [.int .i64 kd, .int .i64 k, .int .i64 ((j : Int) + (s.size : Int)), .bool true] HTH1.out (by kernel_rfl) Try.underlying109 rfl)
    have HB9 := Lib.hid (below_setCells2 HB1.out w.heap.size (Nat.le_refl _) [.int .i64 kd, .int .i64 k, .int .i64 ((j : Int) + (s.size : Int)), .bool true] 0)
    obtain ⟨⟨z0, hz0⟩, hf0⟩ := there_cell HTH1.out 0 (by decide)
    obtain ⟨⟨z1, hz1⟩, hf1⟩ := there_cell HTH1.out 1 (by decide)
    obtain ⟨⟨z2, hz2⟩, hf2⟩ := there_cell HTH1.out 2 (by decide)
    obtain ⟨⟨z3, hz3⟩, hf3⟩ := there_cell HTH1.out 3 (by decide)
    go_wp2
    refine bodyPost_ret (results_cell1 rfl _ rfl HL9.out) rfl ?_
    rw [HE.out]
    exact ⟨by simp [tokV], HB9.out⟩
set_option maxHeartbeats 2000000 in
set_option maxRecDepth 100000 in
theorem EndT_any (S : Nat → Prop) (A : Option Addr) (n c : Nat) (l : List Int) (k : Nat) (w : World) (hr : Rd w S 1 A n c (rc l)) (hk : k + 2 ≤ l.length) (hl9 : l.length ≤ 1000000000) :
    Calls Try.prog 94 #[.slice A n c, .int .i64 k] w fun e w' => e = .returned (tokV (endTF l k) k) ∧ Below w.heap.size w w' := by
  obtain rfl := hr.rlen
  have hle := hr.le
  have hmx : c ≤ 9223372036854775807 := hr.max
  have HR := Lib.hid hr
  clear hr
  obtain ⟨t, ht⟩ : ∃ t, t = endGo l (k + 2) := ⟨_, rfl⟩
  have HT := Lib.hid ht
  have HTT : Hid (endTF l k = (10, t.1, t.2)) := by rw [Hid, ht]; rfl
  clear ht
  go_enter Try.func94, Try.ntmps94
  go_wp2
  have HTH0 := Lib.hid (there_lit w #[.int .i64 0, .int .i64 0, .int .i64 0, .bool false] 109)
  have HB0 := Lib.hid (ba w (.cells #[.int .i64 0, .int .i64 0, .int .i64 0, .bool false] 109))
  have HSZ : Hid (w.heap.size < (w.alloc (.cells #[.int .i64 0, .int .i64 0, .int .i64 0, .bool false] 109)).heap.size) := by simp [Hid]
  generalize w.alloc (.cells #[.int .i64 0, .int .i64 0, .int .i64 0, .bool false] 109) = W0 at HTH0 HB0 HSZ
  have HR0 := Lib.hid (HR.out.below HB0.out)
  have HTH0 : Hid (W0.there w.heap.size 0 4) := HTH0.out
  go_loopw [5] (fun i wr => wr = W0 ∧ ∃ j : Nat, k + 2 ≤ j ∧ j ≤ l.length ∧ i = .int .i64 j ∧ Hid (t = endGo l j)) (fun i _ => l.length - (intOf i).toNat)
  case atStart => exact ⟨rfl, k + 2, Nat.le_refl _, by omega, by go_num, HT.out⟩
  case round =>
    obtain ⟨rfl, j, hj1, hj2, rfl, HJ⟩ := hrel
    by_cases hlt : j < l.length
    · have hji : (j : Int) < (l.length : Int) := by omega
      obtain ⟨b, o, rfl, hc0⟩ := HR0.out.rune hlt
      have H1 := Lib.hid (endGo_gt l j hlt)
      have H2 := Lib.hid (endGo_lt l j hlt)
      have H3 := Lib.hid (endGo_next l j hlt)
      generalize l[j] = r at hc0 H1 H2 H3
      by_cases h62 : r = 62
      · have HE : Hid (endTF l k = (10, j + 1, true)) := by rw [Hid, HTT.out, HJ.out.trans (H1.out h62)]
        subst h62
        clear H1 H2 H3 HJ HTT
        have HL9 := Lib.hid (load_struct (P := Try.prog) (T := 109) wr w.heap.size [.int .i64 10, .int .i64 k, .int .i64 ((j : Int) + 1), .bool true] HTH0.out (by kernel_rfl) Try.underlying109 rfl)
        have HB9 := Lib.hid (below_setCells2 HB0.out w.heap.size (Nat.le_refl _) [.int .i64 10, .int .i64 k, .int .i64 ((j : Int) + 1), .bool true] 0)
        obtain ⟨⟨z0, hz0⟩, hf0⟩ := there_cell HTH0.out 0 (by decide)
        obtain ⟨⟨z1, hz1⟩, hf1⟩ := there_cell HTH0.out 1 (by decide)
        obtain ⟨⟨z2, hz2⟩, hf2⟩ := there_cell HTH0.out 2 (by decide)
        obtain ⟨⟨z3, hz3⟩, hf3⟩ := there_cell HTH0.out 3 (by decide)
        go_wp2
        refine bodyPost_ret (results_cell1 rfl _ rfl HL9.out) rfl ?_
        rw [HE.out]
        exact ⟨by simp [tokV], HB9.out⟩
      · have h62b : (r == 62) = false := by simpa using h62
        by_cases h60 : r = 60
        · have HE : Hid (endTF l k = (10, j, false)) := by rw [Hid, HTT.out, HJ.out.trans (H2.out h60)]
          subst h60
          clear H1 H2 H3 HJ HTT h62
          have HL9 := Lib.hid (load_struct (P := Try.prog) (T := 109) wr w.heap.size [.int .i64 10, .int .i64 k, .int .i64 (j), .bool false] HTH0.out (by kernel_rfl) Try.underlying109 rfl)
          have HB9 := Lib.hid (below_setCells2 HB0.out w.heap.size (Nat.le_refl _) [.int .i64 10, .int .i64 k, .int .i64 (j), .bool false] 0)
          obtain ⟨⟨z0, hz0⟩, hf0⟩ := there_cell HTH0.out 0 (by decide)
          obtain ⟨⟨z1, hz1⟩, hf1⟩ := there_cell HTH0.out 1 (by decide)
          obtain ⟨⟨z2, hz2⟩, hf2⟩ := there_cell HTH0.out 2 (by decide)
          obtain ⟨⟨z3, hz3⟩, hf3⟩ := there_cell HTH0.out 3 (by decide)
          go_wp2
          refine bodyPost_ret (results_cell1 rfl _ rfl HL9.out) rfl ?_
          rw [HE.out]
          exact ⟨by simp [tokV], HB9.out⟩
        · have h60b : (r == 60) = false := by simpa using h60
          have HN := Lib.hid (HJ.out.trans (H3.out h62 h60))
          clear H1 H2 H3 HJ h62 h60
          go_wp2
          go_roundw
          case rel => exact ⟨trivial, j + 1, by omega, by omega, by go_num, HN.out⟩
          case measure => simp [intOf]; omega
    · have hji : ¬ (j : Int) < (l.length : Int) := by omega
      have HE : Hid (endTF l k = (10, l.length, false)) := by rw [Hid, HTT.out, HJ.out.trans (endGo_end l j hlt)]
      clear HJ HTT
      have HL9 := Lib.hid (load_struct (P := Try.prog) (T := 109) wr w.heap.size [.int .i64 10, .int .i64 k, .int .i64 (l.length), .bool false] HTH0.out (by kernel_rfl) Try.underlying109 rfl)
      have HB9 := Lib.hid (below_setCells2 HB0.out w.heap.size (Nat.le_refl _) [.int .i64 10, .int .i64 k, .int .i64 (l.length), .bool false] 0)
      obtain ⟨⟨z0, hz0⟩, hf0⟩ := there_cell HTH0.out 0 (by decide)
      obtain ⟨⟨z1, hz1⟩, hf1⟩ := there_cell HTH0.out 1 (by decide)
      obtain ⟨⟨z2, hz2⟩, hf2⟩ := there_cell HTH0.out 2 (by decide)
      obtain ⟨⟨z3, hz3⟩, hf3⟩ := there_cell HTH0.out 3 (by decide)
      go_wp2
      refine bodyPost_ret (results_cell1 rfl _ rfl HL9.out) rfl ?_
      rw [HE.out]
      exact ⟨by simp [tokV], HB9.out⟩
set_option maxHeartbeats 2000000 in
set_option maxRecDepth 100000 in
theorem StartT_any (S : Nat → Prop) (A : Option Addr) (n c : Nat) (l : List Int) (k : Nat) (w : World) (hr : Rd w S 1 A n c (rc l)) (hk : k < l.length) (hl9 : l.length ≤ 1000000000) :
    Calls Try.prog 95 #[.slice A n c, .int .i64 k] w fun e w' => e = .returned (tokV (startTF l k) k) ∧ Below w.heap.size w w' := by
  obtain rfl := hr.rlen
  have hle := hr.le
  have hmx : c ≤ 9223372036854775807 := hr.max
  have HR := Lib.hid hr
  have HAN : ∀ W, Below w.heap.size w W → Hid (Calls Try.prog 106 #[.slice A l.length c, .int .i64 ((k : Int) + 1), .bool true] W fun e w' => e = .returned (.tuple #[.int .i64 (angleF l true (k + 1)).1, .bool (angleF l true (k + 1)).2]) ∧ Below W.heap.size W w') := fun W h => by
    rw [show ((k : Int) + 1) = ((k + 1 : Nat) : Int) by omega]
    exact Angle_any S A l.length c l (k + 1) true W (HR.out.below h) (by omega) hl9
  obtain ⟨ha1, ha2, ha3⟩ := angleF_range l true l.length (k + 1) (by omega) (by omega)
  have HT : Hid (startTF l k = if (angleF l true (k + 1)).2 = false then (8, (angleF l true (k + 1)).1, false)
    else if l[(angleF l true (k + 1)).1 - 1]? = some 47 then (9, (angleF l true (k + 1)).1 + 1, true) else (8, (angleF l true (k + 1)).1 + 1, true)) := rfl
  clear hr
  generalize (angleF l true (k + 1)).1 = j at HAN HT ha1 ha2 ha3
  generalize (angleF l true (k + 1)).2 = b at HAN HT ha3
  go_enter Try.func95, Try.ntmps95
  go_wp2_with fail
  have HTH0 := Lib.hid (there_lit w #[.int .i64 0, .int .i64 0, .int .i64 0, .bool false] 109)
  have HB0 := Lib.hid (ba w (.cells #[.int .i64 0, .int .i64 0, .int .i64 0, .bool false] 109))
  have HSZ : Hid (w.heap.size < (w.alloc (.cells #[.int .i64 0, .int .i64 0, .int .i64 0, .bool false] 109)).heap.size) := by simp [Hid]
  generalize w.alloc (.cells #[.int .i64 0, .int .i64 0, .int .i64 0, .bool false] 109) = W0 at HTH0 HB0 HSZ
  refine (HAN _ HB0.out).out.mono ?_
  rintro e w1 ⟨rfl, hb1⟩
  have HB1 := Lib.hid (HB0.out.trans (hb1.mono HB0.out.size))
  have HTH1 : Hid (w1.there w.heap.size 0 4) := there_below HTH0.out hb1 HSZ.out
  clear hb1 HTH0 HSZ HB0 HAN
  cases b with
  | false =>
    have HE : Hid (startTF l k = (8, j, false)) := HT.out
    clear HT ha3
    have HL9 := Lib.hid (load_struct (P := Try.prog) (T := 109) w1 w.heap.size [.int .i64 8, .int .i64 k, .int .i64 (j), .bool false] HTH1.out (by kernel_rfl) Try.underlying109 rfl)
    have HB9 := Lib.hid (below_setCells2 HB1.out w.heap.size (Nat.le_refl _) [.int .i64 8, .int .i64 k, .int .i64 (j), .bool false] 0)
    obtain ⟨⟨z0, hz0⟩, hf0⟩ := there_cell HTH1.out 0 (by decide)
    obtain ⟨⟨z1, hz1⟩, hf1⟩ := there_cell HTH1.out 1 (by decide)
    obtain ⟨⟨z2, hz2⟩, hf2⟩ := there_cell HTH1.out 2 (by decide)
    obtain ⟨⟨z3, hz3⟩, hf3⟩ := there_cell HTH1.out 3 (by decide)
    go_wp2
    refine bodyPost_ret (results_cell1 rfl _ rfl HL9.out) rfl ?_
    rw [HE.out]
    exact ⟨by simp [tokV], HB9.out⟩
  | true =>
    have ha3 := ha3 rfl
    have hj1 : j - 1 < l.length := by omega
    have hj1i : (j : Int) - 1 < (l.length : Int) := by omega
    have hj0i : (0 : Int) ≤ (j : Int) - 1 := by omega
    obtain ⟨b, o, rfl, hc0⟩ := (HR.out.below HB1.out).rune hj1
    have HT2 : Hid (startTF l k = if l[j - 1] = 47 then (9, j + 1, true) else (8, j + 1, true)) := by
      rw [Hid, HT.out, if_neg (by simp), List.getElem?_eq_getElem hj1]
      simp only [Option.some.injEq]
    generalize l[j - 1] = r at hc0 HT2
    clear HT
    by_cases h47 : r = 47
    · have HE : Hid (startTF l k = (9, j + 1, true)) := by rw [Hid, HT2.out, if_pos h47]
      subst h47
      clear HT2
      have HL9 := Lib.hid (load_struct (P := Try.prog) (T := 109) w1 w.heap.size [.int .i64 9, .int .i64 k, .int .i64 ((j : Int) + 1), .bool true] HTH1.out (by kernel_rfl) Try.underlying109 rfl)
      have HB9 := Lib.hid (below_setCells2 HB1.out w.heap.size (Nat.le_refl _) [.int .i64 9, .int .i64 k, .int .i64 ((j : Int) + 1), .bool true] 0)
      obtain ⟨⟨z0, hz0⟩, hf0⟩ := there_cell HTH1.out 0 (by decide)
      obtain ⟨⟨z1, hz1⟩, hf1⟩ := there_cell HTH1.out 1 (by decide)
      obtain ⟨⟨z2, hz2⟩, hf2⟩ := there_cell HTH1.out 2 (by decide)
      obtain ⟨⟨z3, hz3⟩, hf3⟩ := there_cell HTH1.out 3 (by decide)
      go_wp2
      refine bodyPost_ret (results_cell1 rfl _ rfl HL9.out) rfl ?_
      rw [HE.out]
      exact ⟨by simp [tokV], HB9.out⟩
    · have HE : Hid (startTF l k = (8, j + 1, true)) := by rw [Hid, HT2.out, if_neg h47]
      have h47b : (r == 47) = false := by simpa using h47
      clear HT2 h47
      have HL9 := Lib.hid (load_struct (P := Try.prog) (T := 109) w1 w.heap.size [.int .i64 8, .int .i64 k, .int .i64 ((j : Int) + 1), .bool true] HTH1.out (by kernel_rfl) Try.underlying109 rfl)
      have HB9 := Lib.hid (below_setCells2 HB1.out w.heap.size (Nat.le_refl _) [.int .i64 8, .int .i64 k, .int .i64 ((j : Int) + 1), .bool true] 0)
      obtain ⟨⟨z0, hz0⟩, hf0⟩ := there_cell HTH1.out 0 (by decide)
      obtain ⟨⟨z1, hz1⟩, hf1⟩ := there_cell HTH1.out 1 (by decide)
      obtain ⟨⟨z2, hz2⟩, hf2⟩ := there_cell HTH1.out 2 (by decide)
      obtain ⟨⟨z3, hz3⟩, hf3⟩ := there_cell HTH1.out 3 (by decide)
      go_wp2
      refine bodyPost_ret (results_cell1 rfl _ rfl HL9.out) rfl ?_
      rw [HE.out]
      exact ⟨by simp [tokV], HB9.out⟩
end Go.Proofs.Ytblafdmmebiagaa
