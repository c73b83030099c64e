/-
  Parts of the proof, joined: LxA RfD Sc. Conditions: as each theorem says.
-/
import Derived.Test.YtblafdmmebiagaaQD06
import Derived.Test.YtblafdmmebiagaaQD04
namespace Go.Proofs.Ytblafdmmebiagaa
open Go.RowKit Go.Lib
def isQuo (r : Int) : Bool := r == 34 || r == 39
def quoF (l : List Int) (q : Int) (k : Nat) : Nat × Bool := if h : k < l.length then (if l[k] = q then (k + 1, true) else quoF l q (k + 1)) else (l.length, false)
termination_by l.length - k
theorem quoF_hit (l : List Int) (q : Int) (k : Nat) (h : k < l.length) (hq : l[k] = q) : quoF l q k = (k + 1, true) := by rw [quoF, dif_pos h, if_pos hq]
theorem quoF_miss (l : List Int) (q : Int) (k : Nat) (h : k < l.length) (hq : l[k] ≠ q) : quoF l q k = quoF l q (k + 1) := by rw [quoF, dif_pos h, if_neg hq]
theorem quoF_end (l : List Int) (q : Int) (k : Nat) (h : ¬ k < l.length) : quoF l q k = (l.length, false) := by rw [quoF, dif_neg h]
theorem quoF_range (l : List Int) (q : Int) : ∀ (n k : Nat), l.length - k ≤ n → k ≤ l.length → k ≤ (quoF l q k).1 ∧ (quoF l q k).1 ≤ l.length ∧ (k < l.length → k < (quoF l q k).1 ∨ (quoF l q k).1 = l.length) := by
  intro n
  induction n with
  | zero =>
    intro k h hk
    rw [quoF_end l q k (by omega)]
    simp only; omega
  | succ n ih =>
    intro k h hk
    by_cases hlt : k < l.length
    · by_cases hq : l[k] = q
      · rw [quoF_hit l q k hlt hq]; simp only; omega
      · rw [quoF_miss l q k hlt hq]
        have := ih (k + 1) (by omega) (by omega)
        omega
    · rw [quoF_end l q k hlt]; simp only; omega
def quotedF (l : List Int) (k : Nat) : Nat × Bool := quoF l (l.getD k 0) (k + 1)
theorem quotedF_gt (l : List Int) (k : Nat) (h : k < l.length) : k < (quotedF l k).1 ∧ (quotedF l k).1 ≤ l.length := by
  have := quoF_range l (l.getD k 0) l.length (k + 1) (by omega) (by omega)
  unfold quotedF; omega
def angleF (l : List Int) (stops : Bool) (k : Nat) : Nat × Bool :=
  if h : k < l.length then
    (if isQuo l[k] then angleF l stops (quotedF l k).1 else if l[k] = 62 then (k, true) else if l[k] = 60 ∧ stops = true then (k, false) else angleF l stops (k + 1))
  else (l.length, false)
termination_by l.length - k
decreasing_by
  · have := quotedF_gt l k (by assumption); omega
  · omega
theorem angleF_end (l : List Int) (s : Bool) (k : Nat) (h : ¬ k < l.length) : angleF l s k = (l.length, false) := by rw [angleF, dif_neg h]
theorem angleF_quo (l : List Int) (s : Bool) (k : Nat) (h : k < l.length) (hq : isQuo l[k] = true) : angleF l s k = angleF l s (quotedF l k).1 := by
  conv => lhs; rw [angleF]
  rw [dif_pos h, if_pos hq]
theorem angleF_gt (l : List Int) (s : Bool) (k : Nat) (h : k < l.length) (hq : l[k] = 62) : angleF l s k = (k, true) := by
  rw [angleF, dif_pos h, if_neg (by rw [hq]; decide), if_pos hq]
theorem angleF_lt (l : List Int) (k : Nat) (h : k < l.length) (hq : l[k] = 60) : angleF l true k = (k, false) := by
  rw [angleF, dif_pos h, if_neg (by rw [hq]; decide), if_neg (by rw [hq]; decide), if_pos ⟨hq, rfl⟩]
theorem angleF_next (l : List Int) (s : Bool) (k : Nat) (h : k < l.length) (h1 : isQuo l[k] = false) (h2 : l[k] ≠ 62) (h3 : ¬ (l[k] = 60 ∧ s = true)) : angleF l s k = angleF l s (k + 1) := by
  conv => lhs; rw [angleF]
  rw [dif_pos h, if_neg (by simp [h1]), if_neg h2, if_neg h3]
theorem angleF_range (l : List Int) (s : Bool) : ∀ (n k : Nat), l.length - k ≤ n → k ≤ l.length → k ≤ (angleF l s k).1 ∧ (angleF l s k).1 ≤ l.length ∧ ((angleF l s k).2 = true → (angleF l s k).1 < l.length) := by
  intro n
  induction n with
  | zero =>
    intro k h hk
    rw [angleF_end l s k (by omega)]
    simp; omega
  | succ n ih =>
    intro k h hk
    by_cases hlt : k < l.length
    · cases hq : isQuo l[k] with
      | true =>
        have := quotedF_gt l k hlt
        have := ih (quotedF l k).1 (by omega) (by omega)
        rw [angleF_quo l s k hlt hq]; exact ⟨by omega, by omega, this.2.2⟩
      | false =>
        by_cases h2 : l[k] = 62
        · rw [angleF_gt l s k hlt h2]; simp; omega
        · by_cases h3 : l[k] = 60 ∧ s = true
          · obtain ⟨h3, rfl⟩ := h3
            rw [angleF_lt l k hlt h3]; simp; omega
          · have := ih (k + 1) (by omega) (by omega)
            rw [angleF_next l s k hlt hq h2 h3]; exact ⟨by omega, by omega, this.2.2⟩
    · rw [angleF_end l s k hlt]
      simp; omega
set_option maxHeartbeats 400000 in
set_option maxRecDepth 100000 in
theorem LQuote_any (r : Int) (w : World) : Calls Try.prog 103 #[.int .i32 r] w fun e w' => e = .returned (.bool (isQuo r)) ∧ w = w' := by
  by_cases h : r = 34
  · subst h
    go_enter Try.func103, Try.ntmps103
    go_wp2
    go_ret
    exact ⟨rfl, rfl⟩
  · have hb : (r == 34) = false := by simpa using h
    have HE : Hid (isQuo r = (r == 39)) := by rw [Hid, isQuo, hb, Bool.false_or]
    clear h
    go_enter Try.func103, Try.ntmps103
    go_wp2
    go_ret
    exact ⟨ret_bool HE.out.symm, rfl⟩
set_option maxHeartbeats 1000000 in
set_option maxRecDepth 100000 in
theorem Quoted_any (S : Nat → Prop) (A : Option Addr) (n c : Nat) (l : List Int) (k : Nat) (w : World) (hr : Rd w S 1 A n c (rc l)) (hk : k < l.length) (hl9 : l.length ≤ 1000000000) :
    Calls Try.prog 104 #[.slice A n c, .int .i64 k] w fun e w' => e = .returned (.tuple #[.int .i64 (quotedF l k).1, .bool (quotedF l k).2]) ∧ Below w.heap.size w w' := by
  obtain rfl := hr.rlen
  have hle := hr.le
  have hmx : c ≤ 9223372036854775807 := hr.max
  have HR := Lib.hid hr
  have hki : (k : Int) < (l.length : Int) := by omega
  have HT : Hid (quotedF l k = quoF l l[k] (k + 1)) := by rw [Hid, quotedF, getD_at hk]
  have HQ := fun W (h : Below w.heap.size w W) => Lib.hid ((HR.out.below h).rune hk)
  clear hr
  generalize quotedF l k = t at HT ⊢
  generalize l[k] = q at HT HQ
  go_enter Try.func104, Try.ntmps104
  go_wp2
  go_loopw [6] (fun i wr => ∃ j : Nat, k + 1 ≤ j ∧ j ≤ l.length ∧ i = .int .i64 j ∧ Hid (t = quoF l q j) ∧ Hid (Below w.heap.size w wr)) (fun i _ => l.length - (intOf i).toNat)
  case atStart => exact ⟨k + 1, Nat.le_refl _, by omega, by go_num, HT.out, Below.refl _ _⟩
  case round =>
    obtain ⟨j, hj1, hj2, rfl, HJ, HB⟩ := hrel
    by_cases hlt : j < l.length
    · have hji : (j : Int) < (l.length : Int) := by omega
      obtain ⟨b, o, rfl, hc0⟩ := (HR.out.below HB.out).rune hlt
      obtain ⟨b', o', hA, hc1⟩ := (HQ _ HB.out).out
      injection hA with hA
      injection hA with e1 e2
      subst e1 e2
      have HH := Lib.hid (quoF_hit l q j hlt)
      have HM := Lib.hid (quoF_miss l q j hlt)
      generalize l[j] = r at hc0 HH HM
      by_cases hq : r = q
      · have HE := Lib.hid (HJ.out.trans (HH.out hq))
        have hb : (r == q) = true := by simpa using hq
        clear HH HM HJ hq
        go_wp2
        go_quiet (fail)
        go_wp2
        go_ret2
        rw [HE.out]
        exact ⟨rfl, below_drewN HB.out _⟩
      · have HE := Lib.hid (HJ.out.trans (HM.out hq))
        have hb : (r == q) = false := by simpa using hq
        clear HH HM HJ hq
        go_wp2
        go_quiet (fail)
        go_wp2
        go_roundw
        case rel => exact ⟨j + 1, by omega, by omega, by go_num, HE.out, below_drewN HB.out _⟩
        case measure => simp [intOf]; omega
    · have hji : ¬ (j : Int) < (l.length : Int) := by omega
      have HE := Lib.hid (HJ.out.trans (quoF_end l q j hlt))
      clear HJ
      go_wp2
      go_ret2
      rw [HE.out]
      exact ⟨rfl, HB.out⟩
set_option maxHeartbeats 2000000 in
set_option maxRecDepth 100000 in
theorem Angle_any (S : Nat → Prop) (A : Option Addr) (n c : Nat) (l : List Int) (k : Nat) (s : Bool) (w : World) (hr : Rd w S 1 A n c (rc l)) (hk : k ≤ l.length) (hl9 : l.length ≤ 1000000000) :
    Calls Try.prog 106 #[.slice A n c, .int .i64 k, .bool s] w fun e w' => e = .returned (.tuple #[.int .i64 (angleF l s k).1, .bool (angleF l s k).2]) ∧ Below w.heap.size w w' := by
  obtain rfl := hr.rlen
  have hle := hr.le
  have hmx : c ≤ 9223372036854775807 := hr.max
  have HR := Lib.hid hr
  clear hr
  obtain ⟨t, ht⟩ : ∃ t, t = angleF l s k := ⟨_, rfl⟩
  rw [← ht]
  have HT := Lib.hid ht
  clear ht
  go_enter Try.func106, Try.ntmps106
  go_wp2
  go_loopw [1] (fun i wr => ∃ j : Nat, j ≤ l.length ∧ i = .int .i64 j ∧ Hid (t = angleF l s j) ∧ Hid (Below w.heap.size w wr)) (fun i _ => l.length - (intOf i).toNat)
  case atStart => exact ⟨k, hk, rfl, HT.out, Below.refl _ _⟩
  case round =>
    obtain ⟨j, hj, rfl, HJ, HB⟩ := hrel
    by_cases hlt : j < l.length
    · have hji : (j : Int) < (l.length : Int) := by omega
      obtain ⟨b, o, rfl, hc0⟩ := (HR.out.below HB.out).rune hlt
      have HQT := Lib.hid (LQuote_any l[j])
      have HQD := Lib.hid (Quoted_any S _ l.length c l j _ (HR.out.below HB.out) hlt hl9)
      obtain ⟨hg1, hg2⟩ := quotedF_gt l j hlt
      have H1 := Lib.hid (angleF_quo l s j hlt)
      have H2 := Lib.hid (angleF_gt l s j hlt)
      have H4 := Lib.hid (angleF_next l s j hlt)
      have H3 := Lib.hid (show s = true → l[j] = 60 → angleF l s j = (j, false) from fun h h2 => by subst h; exact angleF_lt l j hlt h2)
      generalize l[j] = r at hc0 HQT H1 H2 H3 H4
      cases hq : isQuo r with
      | true =>
        have HE := Lib.hid (HJ.out.trans (H1.out hq))
        have HQT2 := fun W => Lib.hid (HQT.out W)
        rw [hq] at HQT2
        clear H1 H2 H3 H4 HJ hq HQT
        generalize (quotedF l j).1 = nx at HE HQD hg1 hg2
        generalize (quotedF l j).2 = nb at HQD
        go_wp2_with fail
        refine (HQT2 _).out.mono ?_
        rintro e wx ⟨rfl, rfl⟩
        go_wp2_with fail
        refine HQD.out.mono ?_
        rintro e w2 ⟨rfl, hb2⟩
        have HB2 := Lib.hid (HB.out.trans (hb2.mono HB.out.size))
        clear hb2
        go_wp2
        go_roundw
        case rel => exact ⟨nx, by omega, rfl, HE.out, HB2.out⟩
        case measure => simp [intOf]; omega
      | false =>
        have HQT2 := fun W => Lib.hid (HQT.out W)
        rw [hq] at HQT2
        clear HQD hg1 hg2 HQT
        by_cases h62 : r = 62
        · have HE := Lib.hid (HJ.out.trans (H2.out h62))
          subst h62
          clear H1 H2 H3 H4 HJ hq
          go_wp2_with fail
          refine (HQT2 _).out.mono ?_
          rintro e wx ⟨rfl, rfl⟩
          go_wp2
          go_ret2
          rw [HE.out]
          exact ⟨rfl, HB.out⟩
        · have h62b : (r == 62) = false := by simpa using h62
          by_cases h60 : r = 60
          · subst h60
            cases s with
            | true =>
              have HE := Lib.hid (HJ.out.trans (H3.out rfl rfl))
              clear H1 H2 H3 H4 HJ hq h62
              go_wp2_with fail
              refine (HQT2 _).out.mono ?_
              rintro e wx ⟨rfl, rfl⟩
              go_wp2
              go_ret2
              rw [HE.out]
              exact ⟨rfl, HB.out⟩
            | false =>
              have HE := Lib.hid (HJ.out.trans (H4.out hq h62 (by simp)))
              clear H1 H2 H3 H4 HJ hq h62
              go_wp2_with fail
              refine (HQT2 _).out.mono ?_
              rintro e wx ⟨rfl, rfl⟩
              go_wp2
              go_roundw
              case rel => exact ⟨j + 1, by omega, by go_num, HE.out, HB.out⟩
              case measure => simp [intOf]; omega
          · have h60b : (r == 60) = false := by simpa using h60
            have HE := Lib.hid (HJ.out.trans (H4.out hq h62 (fun h => h60 h.1)))
            clear H1 H2 H3 H4 HJ hq h62 h60
            go_wp2_with fail
            refine (HQT2 _).out.mono ?_
            rintro e wx ⟨rfl, rfl⟩
            go_wp2
            go_roundw
            case rel => exact ⟨j + 1, by omega, by go_num, HE.out, HB.out⟩
            case measure => simp [intOf]; omega
    · have hji : ¬ (j : Int) < (l.length : Int) := by omega
      have HE := Lib.hid (HJ.out.trans (angleF_end l s j hlt))
      clear HJ
      go_wp2
      go_ret2
      rw [HE.out]
      exact ⟨rfl, HB.out⟩
end Go.Proofs.Ytblafdmmebiagaa
namespace Go.Proofs.Ytblafdmmebiagaa
open Go.RowKit Go.Lib
set_option maxHeartbeats 2000000 in
set_option maxRecDepth 100000 in
theorem NextAmp_any (S : Nat → Prop) (A : Option Addr) (n c : Nat) (l : List Int) (k : Nat) (w : World) (hr : Rd w S 1 A n c (rc l)) (h38 : l[k]? = some 38) (hl9 : l.length ≤ 1000000000) :
    Calls Try.prog 67 #[.slice A n c, .int .i64 k] w fun e w' => e = .returned (.tuple #[tokV (refF l k) k, .bool true]) ∧ Below w.heap.size w w' := by
  obtain rfl := hr.rlen
  have hle := hr.le
  have hmx : c ≤ 9223372036854775807 := hr.max
  obtain ⟨hk, h38⟩ := List.getElem?_eq_some_iff.1 h38
  obtain ⟨b, o, rfl, hc0⟩ := hr.rune hk
  rw [h38] at hc0
  have hca := fun ob => cell_keep (ba w ob) hc0
  have hki : ¬ (k : Int) ≥ (l.length : Int) := by omega
  have HRF := fun W (h : Below w.heap.size w W) => Lib.hid (Ref_any S _ _ c l k W (hr.below h) hk hl9)
  clear hr h38
  generalize refF l k = t at HRF ⊢
  obtain ⟨kd, to, wh⟩ := t
  have HRF : ∀ W, Below w.heap.size w W → Hid (Calls Try.prog 80 #[.slice (some ⟨b, o, none⟩) l.length c, .int .i64 k] W fun e w' => e = .returned (.agg #[.int .i64 kd, .int .i64 k, .int .i64 to, .bool wh]) ∧ Below W.heap.size W w') := HRF
  go_enter Try.func67, Try.ntmps67
  go_wp2_with fail
  have HTH0 := Lib.hid (there_lit w #[.int .i64 0, .int .i64 0, .int .i64 0, .bool false] 109)
  have HB0 := Lib.hid (ba w (.cells #[.int .i64 0, .int .i64 0, .int .i64 0, .bool false] 109))
  have HSZ : Hid (w.heap.size < (w.alloc (.cells #[.int .i64 0, .int .i64 0, .int .i64 0, .bool false] 109)).heap.size) := by simp [Hid]
  generalize w.alloc (.cells #[.int .i64 0, .int .i64 0, .int .i64 0, .bool false] 109) = W0 at HTH0 HB0 HSZ
  refine (HRF _ HB0.out).out.mono ?_
  rintro e w1 ⟨rfl, hb1⟩
  have HB1 := Lib.hid (HB0.out.trans (hb1.mono HB0.out.size))
  have hth := there_below HTH0.out hb1 HSZ.out
  have HL9 := Lib.hid (load_struct (P := Try.prog) (T := 109) w1 w.heap.size [.int .i64 kd, .int .i64 k, .int .i64 to, .bool wh] hth (by kernel_rfl) Try.underlying109 rfl)
  have HB9 := Lib.hid (below_setCells2 HB1.out w.heap.size (Nat.le_refl _) [.int .i64 kd, .int .i64 k, .int .i64 to, .bool wh] 0)
  obtain ⟨⟨z0, hz0⟩, hf0⟩ := there_cell hth 0 (by decide)
  obtain ⟨⟨z1, hz1⟩, hf1⟩ := there_cell hth 1 (by decide)
  obtain ⟨⟨z2, hz2⟩, hf2⟩ := there_cell hth 2 (by decide)
  obtain ⟨⟨z3, hz3⟩, hf3⟩ := there_cell hth 3 (by decide)
  clear hth hb1 HTH0 HRF
  go_wp2
  refine bodyPost_ret (results_cell2 rfl _ rfl HL9.out) rfl ?_
  exact ⟨rfl, HB9.out⟩
end Go.Proofs.Ytblafdmmebiagaa
namespace Go.Proofs.Ytblafdmmebiagaa
open Go.RowKit Go.Lib
def strF (l : List Int) : List UInt8 := l.flatMap fun x => if x = -1 then [] else bytesF [x]
theorem strF_step (l : List Int) {k : Nat} (h : k < l.length) : strF (l.take (k + 1)) = strF (l.take k) ++ (if l[k] = -1 then [] else bytesF [l[k]]) := by
  rw [strF, strF, List.take_succ_eq_append_getElem h, List.flatMap_append]; simp
theorem strF_len (l : List Int) : (strF l).length ≤ 4 * l.length := by
  induction l with
  | nil => exact Nat.zero_le _
  | cons x r ih =>
    have h1 : (if x = -1 then ([] : List UInt8) else bytesF [x]).length ≤ 4 := by
      split
      · exact Nat.zero_le _
      · have := bytesF_len [x]; simpa using this
    have e : strF (x :: r) = (if x = -1 then [] else bytesF [x]) ++ strF r := rfl
    rw [e, List.length_append, List.length_cons]
    omega
theorem Sb.below {B b : Nat} {xs : List UInt8} {w w' : World} (h : Sb B b xs w) (hb : Below w.heap.size w w') : Sb B b xs w' := by
  have key : ∀ p, Lib.BuilderAt 129 5 B b p (bc xs) w → Lib.BuilderAt 129 5 B b p (bc xs) w' := by
    rintro p ⟨hB, v, hbk, hown, hne⟩
    have hlt : b < w.heap.size := Lib.BuilderAt.lt ⟨hB, v, hbk, hown, hne⟩
    exact ⟨hB, v, by rw [hb.block b hlt]; exact hbk, own_below hown hb, hne⟩
  exact h.imp (key _) (key _)
theorem Sb.lt {B b : Nat} {xs : List UInt8} {w : World} (h : Sb B b xs w) : b < w.heap.size := by
  rcases h with h | h
  · exact h.lt
  · exact h.lt
set_option maxHeartbeats 2000000 in
set_option maxRecDepth 100000 in
theorem TIn_any (A : Option Addr) (n c i j : Nat) (w : World) (hij : i ≤ j) (hj : j ≤ n) :
    Calls Try.prog 61 #[.agg #[.int .i64 0, .int .i64 0, .slice A n c, .slice none 0 0], .int .i64 i, .int .i64 j] w fun e w' => e = .returned (.bool true) ∧ Below w.heap.size w w' := by
  go_enter Try.func61, Try.ntmps61
  go_wp2
  go_ret
  exact ⟨rfl, (Below.refl _ w).alloc (Nat.le_refl _) _⟩
set_option maxHeartbeats 2000000 in
set_option maxRecDepth 100000 in
theorem TString_any (S : Nat → Prop) (A : Option Addr) (n c : Nat) (l : List Int) (i j : Nat) (w : World) (hr : Rd w S 1 A n c (rc l)) (hij : i ≤ j) (hj : j ≤ l.length) (hl : l.length ≤ 1000000) (hne : strF ((l.drop i).take (j - i)) ≠ []) :
    Calls Try.prog 44 #[.agg #[.int .i64 0, .int .i64 0, .slice A n c, .slice none 0 0], .int .i64 i, .int .i64 j] w fun e w' => e = .returned (.string ⟨(strF ((l.drop i).take (j - i))).toArray⟩) ∧ Below w.heap.size w w' := by
  obtain rfl := hr.rlen
  have hle := hr.le
  have hmx : c ≤ 9223372036854775807 := hr.max
  obtain ⟨A2, hr2, hcut⟩ := hr.cutLH (P := Try.prog) (t := 24) Try.underlying24 Try.sizeOf21 hij hj
  have hrc : ((rc l).drop (i * 1)).take ((j - i) * 1) = rc ((l.drop i).take (j - i)) := by simp [rc, List.map_take, List.map_drop]
  rw [hrc] at hr2
  obtain ⟨s, hs⟩ : ∃ s, s = (l.drop i).take (j - i) := ⟨_, rfl⟩
  rw [← hs] at hr2 hne ⊢
  have hsl : s.length = j - i := by rw [hs, List.length_take, List.length_drop]; omega
  have HR := Lib.hid hr2
  have HC := Lib.hid hcut
  clear hr hr2 hrc hs hcut
  go_enter Try.func44, Try.ntmps44
  go_wp2_with (go_at_call 61; refine (TIn_any _ _ _ _ _ _ hij hj).mono ?_)
  rintro e w1 ⟨rfl, hb1⟩
  have HB1 := Lib.hid (bt (ba w _) hb1)
  have hc0 : w1.cell? ⟨w.heap.size, 2, none⟩ = some (.slice A l.length c) := cell_keep hb1 (box_cell w _ _ 2 rfl)
  have hlt0 : w.heap.size < w1.heap.size := World.block_lt_of_cell? w1 _ hc0
  have hc1 : (w1.alloc (.cells #[.pointer none, .slice none 0 0] 129)).cell? ⟨w.heap.size, 2, none⟩ = some (.slice A l.length c) := cell_keep ((Below.refl _ w1).alloc (Nat.le_refl _) _) hc0
  have HSB : Hid (Sb w1.heap.size w1.heap.size [] (w1.alloc (.cells #[.pointer none, .slice none 0 0] 129))) := Lib.fresh_isBuilder 129 5 w1
  have hcut := HC.out
  clear hb1 hc0
  go_wp2
  clear hcut
  go_loopw [21] (fun q wr => ∃ (k : Nat), k ≤ s.length ∧ q = .int .i64 k ∧ Hid (Sb w1.heap.size w1.heap.size (strF (s.take k)) wr) ∧ Hid (Below w1.heap.size w1 wr))
    (fun q _ => s.length - (intOf q).toNat)
  case atStart => exact ⟨0, Nat.zero_le _, rfl, HSB.out, ba w1 _⟩
  case round =>
    obtain ⟨k, hk, rfl, HO, HB⟩ := hrel
    have hsz := HB.out.size
    have hblt := HO.out.lt
    have hfl := strF_len (s.take k)
    rw [List.length_take] at hfl
    by_cases hlt : k < s.length
    · obtain ⟨b, u, rfl, hc2⟩ := (HR.out.below (bt HB1.out HB.out)).rune hlt
      have HST := Lib.hid (strF_step s hlt)
      generalize s[k] = r at hc2 HST
      by_cases hb : r = -1
      · have hS2 : strF (s.take (k + 1)) = strF (s.take k) := by rw [HST.out, if_pos hb, List.append_nil]
        have HST2 := Lib.hid hS2
        clear HST hS2
        subst hb
        go_wp2
        go_roundw
        case rel => exact ⟨k + 1, by omega, by go_num, by rw [HST2.out]; exact HO.out, HB.out⟩
        case measure => simp [intOf]; omega
      · have hS2 : strF (s.take (k + 1)) = strF (s.take k) ++ bytesF [r] := by rw [HST.out, if_neg hb]
        have HST2 := Lib.hid hS2
        clear HST hS2
        have hbl := bytesF_len [r]
        simp only [List.length_singleton] at hbl
        have hsa : (wr.alloc (.cells #[.int .i32 r] 21)).heap.size = wr.heap.size + 1 := by simp
        go_wp2_with fail
        refine (Bytes_any _ _ 1 1 [r] _ (Rd.litN wr wr.heap.size rfl _ #[.int .i32 r] 1 1 rfl (by decide)) (by simp)).mono ?_
        rintro e w2 ⟨v, rfl, ⟨n2, hown⟩, hb2⟩
        have hn2 := bc_own_len hown
        obtain ⟨A3, c3, rfl, hro⟩ := own_form hown
        have HO2 := Lib.hid ((HO.out.below (ba wr _)).below hb2)
        have HB2 := Lib.hid (bb (bb HB.out (ba wr _) hsz) hb2 (by omega))
        have hsz2 := HB2.out.size
        have HRO := Lib.hid hro
        have hc3 : c3 ≤ 9223372036854775807 := hro.max
        subst hn2
        clear hown hb2 hro
        go_wp2_with fail
        refine (SbWrite_any _ A3 _ c3 w1.heap.size w1.heap.size (strF (s.take k)) (bytesF [r]) w2 HO2.out HRO.out (by omega) (by omega) hsz2).mono ?_
        rintro e w3 ⟨rfl, h3, hb3⟩
        have HO3 := Lib.hid h3
        have HB3 := Lib.hid (HB2.out.trans hb3)
        clear h3 hb3
        go_wp2
        go_roundw
        case rel => exact ⟨k + 1, by omega, by go_num, by rw [HST2.out]; exact HO3.out, HB3.out⟩
        case measure => simp [intOf]; omega
    · have e : s.take k = s := List.take_of_length_le (by omega)
      rw [e] at HO
      go_wp2_with fail
      refine (SbString_any w1.heap.size w1.heap.size (strF s) wr HO.out hne).mono ?_
      rintro e w3 ⟨rfl, hb3⟩
      have HB3 := Lib.hid (HB.out.trans hb3)
      clear hb3
      go_wp2
      go_ret
      exact ⟨rfl, HB1.out.trans (HB3.out.mono HB1.out.size)⟩
end Go.Proofs.Ytblafdmmebiagaa
