/-
  Parts of the proof, joined: LxC LxD. Conditions: as each theorem says.
-/
import Derived.Test.YtblafdmmebiagaaQD13
namespace Go.Proofs.Ytblafdmmebiagaa
open Go.RowKit Go.Lib
theorem findF_le (l : List Int) (k t : Nat) (bs : List UInt8) (j : Nat) (h : findF l k t bs = some j) : k ≤ j ∧ j < t + 1 - bs.length := by
  rw [findF, List.find?_range'_eq_some] at h
  have := List.mem_range'_1.1 h.2.1
  omega
theorem upToF_range (l : List Int) (kd k skip : Nat) (bs : List UInt8) (hk : k < l.length) (hb : 0 < bs.length) : k < (upToF l kd k skip bs).2.1 ∧ (upToF l kd k skip bs).2.1 ≤ l.length := by
  unfold upToF
  cases h : findF l (min (k + skip) l.length) l.length bs with
  | none => simp only; omega
  | some j =>
    have := findF_le l _ _ bs j h
    simp only; omega
def declF (l : List Int) (k : Nat) : Nat × Bool :=
  if startsF l k [60, 33, 45, 45] = true then ((upToF l 4 k 4 [45, 45, 62]).2.1, (upToF l 4 k 4 [45, 45, 62]).2.2)
  else if startsF l k [60, 63] = true then ((upToF l 5 k 2 [63, 62]).2.1, (upToF l 5 k 2 [63, 62]).2.2)
  else if l.getD k 0 = 60 then (min ((angleF l false k).1 + 1) l.length, (angleF l false k).2)
  else (k + 1, true)
theorem declF_range (l : List Int) (k : Nat) (hk : k < l.length) : k < (declF l k).1 ∧ (declF l k).1 ≤ l.length := by
  unfold declF
  split
  · exact upToF_range l 4 k 4 _ hk (by decide)
  · split
    · exact upToF_range l 5 k 2 _ hk (by decide)
    · split
      · have := angleF_range l false l.length k (by omega) (by omega)
        simp only; omega
      · simp only; omega
def subGo (l : List Int) (k : Nat) (ok : Bool) : Nat × Bool :=
  if h : k < l.length ∧ ok = true then (if l[k]'h.1 = 93 then (k + 1, true) else subGo l (declF l k).1 (declF l k).2) else (l.length, false)
termination_by l.length - k
decreasing_by
  have := declF_range l k h.1; omega
theorem subGo_hit (l : List Int) (k : Nat) (h : k < l.length) (hq : l[k] = 93) : subGo l k true = (k + 1, true) := by rw [subGo, dif_pos ⟨h, rfl⟩, if_pos hq]
theorem subGo_next (l : List Int) (k : Nat) (h : k < l.length) (hq : l[k] ≠ 93) : subGo l k true = subGo l (declF l k).1 (declF l k).2 := by
  conv => lhs; rw [subGo]
  rw [dif_pos ⟨h, rfl⟩, if_neg hq]
theorem subGo_end (l : List Int) (k : Nat) (ok : Bool) (h : ¬ (k < l.length ∧ ok = true)) : subGo l k ok = (l.length, false) := by rw [subGo, dif_neg h]
theorem subGo_range (l : List Int) : ∀ (n k : Nat) (ok : Bool), l.length - k ≤ n → k ≤ l.length → (k < (subGo l k ok).1 ∨ (subGo l k ok).1 = l.length) ∧ (subGo l k ok).1 ≤ l.length := by
  intro n
  induction n with
  | zero =>
    intro k ok h hk
    rw [subGo_end l k ok (by omega)]
    simp
  | succ n ih =>
    intro k ok h hk
    by_cases hlt : k < l.length ∧ ok = true
    · obtain ⟨hlt, rfl⟩ := hlt
      by_cases hq : l[k] = 93
      · rw [subGo_hit l k hlt hq]; simp only; omega
      · have := declF_range l k hlt
        have := ih (declF l k).1 (declF l k).2 (by omega) (by omega)
        rw [subGo_next l k hlt hq]; omega
    · rw [subGo_end l k ok hlt]; simp
def subF (l : List Int) (k : Nat) : Nat × Bool := subGo l (k + 1) true
set_option maxHeartbeats 2000000 in
set_option maxRecDepth 100000 in
theorem Declared_any (S : Nat → Prop) (A : Option Addr) (n c : Nat) (l : List Int) (k : Nat) (w : World) (hr : Rd w S 1 A n c (rc l)) (hk : k < l.length) (hl9 : l.length ≤ 1000000000) :
    Calls Try.prog 110 #[.slice A n c, .int .i64 k] w fun e w' => e = .returned (.tuple #[.int .i64 (declF l k).1, .bool (declF l k).2]) ∧ Below w.heap.size w w' := by
  obtain rfl := hr.rlen
  have hle := hr.le
  have hmx : c ≤ 9223372036854775807 := hr.max
  have HR := Lib.hid hr
  have HS1 : ∀ W, Below w.heap.size w W → Hid (Calls Try.prog 88 #[.slice A l.length c, .int .i64 k, .string ⟨#[60, 33, 45, 45]⟩] W fun e w' => e = .returned (.bool (startsF l k [60, 33, 45, 45])) ∧ Below W.heap.size W w') :=
    fun W h => Starts_any S A l.length c l k ⟨#[60, 33, 45, 45]⟩ W (HR.out.below h) (by omega) hl9 (by decide)
  have HS2 : ∀ W, Below w.heap.size w W → Hid (Calls Try.prog 88 #[.slice A l.length c, .int .i64 k, .string ⟨#[60, 63]⟩] W fun e w' => e = .returned (.bool (startsF l k [60, 63])) ∧ Below W.heap.size W w') :=
    fun W h => Starts_any S A l.length c l k ⟨#[60, 63]⟩ W (HR.out.below h) (by omega) hl9 (by decide)
  have HU1 : ∀ W, Below w.heap.size w W → Hid (Calls Try.prog 92 #[.slice A l.length c, .int .i64 4, .int .i64 k, .int .i64 4, .string ⟨#[45, 45, 62]⟩] W fun e w' => e = .returned (tokV (upToF l 4 k 4 [45, 45, 62]) k) ∧ Below W.heap.size W w') :=
    fun W h => UpTo_any S A l.length c l 4 k 4 ⟨#[45, 45, 62]⟩ W (HR.out.below h) (by omega) (by decide) hl9 (by decide)
  have HU2 : ∀ W, Below w.heap.size w W → Hid (Calls Try.prog 92 #[.slice A l.length c, .int .i64 5, .int .i64 k, .int .i64 2, .string ⟨#[63, 62]⟩] W fun e w' => e = .returned (tokV (upToF l 5 k 2 [63, 62]) k) ∧ Below W.heap.size W w') :=
    fun W h => UpTo_any S A l.length c l 5 k 2 ⟨#[63, 62]⟩ W (HR.out.below h) (by omega) (by decide) hl9 (by decide)
  have HAN := fun W (h : Below w.heap.size w W) => Lib.hid (Angle_any S A l.length c l k false W (HR.out.below h) (by omega) hl9)
  obtain ⟨ha1, ha2, _⟩ := angleF_range l false l.length k (by omega) (by omega)
  have HT : Hid (declF l k = if startsF l k [60, 33, 45, 45] = true then ((upToF l 4 k 4 [45, 45, 62]).2.1, (upToF l 4 k 4 [45, 45, 62]).2.2)
    else if startsF l k [60, 63] = true then ((upToF l 5 k 2 [63, 62]).2.1, (upToF l 5 k 2 [63, 62]).2.2)
    else if l[k] = 60 then (min ((angleF l false k).1 + 1) l.length, (angleF l false k).2) else (k + 1, true)) := by rw [Hid, declF, getD_at hk]
  have HCK := fun W (h : Below w.heap.size w W) => Lib.hid ((HR.out.below h).rune hk)
  clear hr
  have hki : (k : Int) < (l.length : Int) := by omega
  generalize declF l k = t at HT ⊢
  generalize startsF l k [60, 33, 45, 45] = s1 at HS1 HT
  generalize startsF l k [60, 63] = s2 at HS2 HT
  generalize upToF l 4 k 4 [45, 45, 62] = u1 at HU1 HT
  generalize upToF l 5 k 2 [63, 62] = u2 at HU2 HT
  generalize (angleF l false k).1 = aj at HAN HT ha1 ha2
  generalize (angleF l false k).2 = ab at HAN HT
  generalize l[k] = r at HCK HT
  obtain ⟨k1, t1, w1b⟩ := u1
  obtain ⟨k2, t2, w2b⟩ := u2
  have HU1 : ∀ W, Below w.heap.size w W → Hid (Calls Try.prog 92 #[.slice A l.length c, .int .i64 4, .int .i64 k, .int .i64 4, .string ⟨#[45, 45, 62]⟩] W fun e w' => e = .returned (.agg #[.int .i64 k1, .int .i64 k, .int .i64 t1, .bool w1b]) ∧ Below W.heap.size W w') := HU1
  have HU2 : ∀ W, Below w.heap.size w W → Hid (Calls Try.prog 92 #[.slice A l.length c, .int .i64 5, .int .i64 k, .int .i64 2, .string ⟨#[63, 62]⟩] W fun e w' => e = .returned (.agg #[.int .i64 k2, .int .i64 k, .int .i64 t2, .bool w2b]) ∧ Below W.heap.size W w') := HU2
  have hm : ∀ ts t W, (Builtin.min_ ts t #[.int .i64 ((aj : Int) + 1), .int .i64 (l.length : Int)]).run Try.prog W = .ok (.int .i64 (min (aj + 1) l.length : Nat)) W := fun ts t W => by
    rw [run_min_int2]
    congr 2
    split <;> omega
  go_enter Try.func110, Try.ntmps110
  go_wp2_with fail
  refine (HS1 _ (Below.refl _ _)).out.mono ?_
  rintro e v1 ⟨rfl, hb1⟩
  have HB1 := Lib.hid hb1
  clear hb1 HS1
  cases s1 with
  | true =>
    have HE : Hid (t = (t1, w1b)) := HT.out
    clear HT
    go_wp2_with fail
    refine (HU1 _ HB1.out).out.mono ?_
    rintro e v2 ⟨rfl, hb2⟩
    have HB2 := Lib.hid (bt HB1.out hb2)
    clear hb2
    go_wp2
    go_quiet (fail)
    go_wp2
    go_ret2
    rw [HE.out]
    exact ⟨rfl, below_drewN (bt HB2.out (ba _ _)) _⟩
  | false =>
    go_wp2_with fail
    refine (HS2 _ HB1.out).out.mono ?_
    rintro e v2 ⟨rfl, hb2⟩
    have HB2 := Lib.hid (bt HB1.out hb2)
    clear hb2
    cases s2 with
    | true =>
      have HE : Hid (t = (t2, w2b)) := HT.out
      clear HT
      go_wp2_with fail
      refine (HU2 _ HB2.out).out.mono ?_
      rintro e v3 ⟨rfl, hb3⟩
      have HB3 := Lib.hid (bt HB2.out hb3)
      clear hb3
      go_wp2
      go_quiet (fail)
      go_wp2
      go_ret2
      rw [HE.out]
      exact ⟨rfl, below_drewN (bt HB3.out (ba _ _)) _⟩
    | false =>
      obtain ⟨b, o, rfl, hc0⟩ := (HCK _ HB2.out).out
      by_cases h60 : r = 60
      · have HE : Hid (t = (min (aj + 1) l.length, ab)) := by rw [Hid, HT.out]; simp [h60]
        subst h60
        clear HT HCK
        generalize min (aj + 1) l.length = m2 at hm HE
        go_wp2_with fail
        refine (HAN _ HB2.out).out.mono ?_
        rintro e v3 ⟨rfl, hb3⟩
        have HB3 := Lib.hid (bt HB2.out hb3)
        clear hb3
        go_wp2
        go_ret2
        rw [HE.out]
        exact ⟨rfl, HB3.out⟩
      · have HE : Hid (t = (k + 1, true)) := by rw [Hid, HT.out]; simp [h60]
        have h60b : (r == 60) = false := by simpa using h60
        clear HT HCK h60
        go_wp2
        go_ret2
        rw [HE.out]
        exact ⟨by simp, HB2.out⟩
set_option maxHeartbeats 2000000 in
set_option maxRecDepth 100000 in
theorem Subset_any (S : Nat → Prop) (A : Option Addr) (n c : Nat) (l : List Int) (k : Nat) (w : World) (hr : Rd w S 1 A n c (rc l)) (hk : k < l.length) (hl9 : l.length ≤ 1000000000) :
    Calls Try.prog 105 #[.slice A n c, .int .i64 k] w fun e w' => e = .returned (.tuple #[.int .i64 (subF l k).1, .bool (subF l k).2]) ∧ Below w.heap.size w w' := by
  obtain rfl := hr.rlen
  have hle := hr.le
  have hmx : c ≤ 9223372036854775807 := hr.max
  have HR := Lib.hid hr
  clear hr
  have HT : Hid (subF l k = subGo l (k + 1) true) := rfl
  generalize subF l k = t at HT ⊢
  go_enter Try.func105, Try.ntmps105
  go_wp2
  go_loopw [1, 6] (fun i o wr => ∃ (j : Nat) (ok : Bool), j ≤ l.length ∧ i = .int .i64 j ∧ o = .bool ok ∧ Hid (t = subGo l j ok) ∧ Hid (Below w.heap.size w wr)) (fun i _ _ => l.length - (intOf i).toNat)
  case atStart => exact ⟨k + 1, true, by omega, by go_num, rfl, HT.out, Below.refl _ _⟩
  case round =>
    obtain ⟨j, ok, hj, rfl, rfl, HJ, HB⟩ := hrel
    by_cases hlt : j < l.length
    · have hji : (j : Int) < (l.length : Int) := by omega
      cases ok with
      | true =>
        obtain ⟨b, o, rfl, hc0⟩ := (HR.out.below HB.out).rune hlt
        have H1 := Lib.hid (subGo_hit l j hlt)
        have H2 := Lib.hid (subGo_next l j hlt)
        have HDC := Lib.hid (Declared_any S _ l.length c l j _ (HR.out.below HB.out) hlt hl9)
        obtain ⟨hd1, hd2⟩ := declF_range l j hlt
        generalize l[j] = r at hc0 H1 H2
        generalize (declF l j).1 = dj at H2 HDC hd1 hd2
        generalize (declF l j).2 = db at H2 HDC
        by_cases h93 : r = 93
        · have HE := Lib.hid (HJ.out.trans (H1.out h93))
          subst h93
          clear H1 H2 HJ HDC
          go_wp2
          go_ret2
          rw [HE.out]
          exact ⟨by simp, HB.out⟩
        · have HE := Lib.hid (HJ.out.trans (H2.out h93))
          have h93b : (r == 93) = false := by simpa using h93
          clear H1 H2 HJ h93
          go_wp2_with fail
          refine HDC.out.mono ?_
          rintro e v2 ⟨rfl, hb2⟩
          have HB2 := Lib.hid (HB.out.trans (hb2.mono HB.out.size))
          clear hb2
          go_wp2
          go_roundw
          case rel => exact ⟨dj, db, by omega, rfl, rfl, HE.out, HB2.out⟩
          case measure => simp [intOf]; omega
      | false =>
        have HE := Lib.hid (HJ.out.trans (subGo_end l j false (by simp)))
        clear HJ
        go_wp2
        go_ret2
        rw [HE.out]
        exact ⟨rfl, HB.out⟩
    · have hji : ¬ (j : Int) < (l.length : Int) := by omega
      have HE := Lib.hid (HJ.out.trans (subGo_end l j ok (fun h => hlt h.1)))
      clear HJ
      go_wp2
      go_ret2
      rw [HE.out]
      exact ⟨rfl, HB.out⟩
end Go.Proofs.Ytblafdmmebiagaa
namespace Go.Proofs.Ytblafdmmebiagaa
open Go.RowKit Go.Lib
theorem subF_range (l : List Int) (k : Nat) (hk : k < l.length) : k < (subF l k).1 ∧ (subF l k).1 ≤ l.length := by
  have := subGo_range l l.length (k + 1) true (by omega) (by omega)
  unfold subF; omega
def docGo (l : List Int) (k : Nat) (ok : Bool) : Nat × Bool :=
  if h : k < l.length ∧ ok = true then
    (if l[k]'h.1 = 62 then (k + 1, true) else if isQuo (l[k]'h.1) then docGo l (quotedF l k).1 (quotedF l k).2 else if l[k]'h.1 = 91 then docGo l (subF l k).1 (subF l k).2 else docGo l (k + 1) true)
  else (l.length, false)
termination_by l.length - k
decreasing_by
  · have := quotedF_gt l k h.1; omega
  · have := subF_range l k h.1; omega
  · omega
theorem docGo_end (l : List Int) (k : Nat) (ok : Bool) (h : ¬ (k < l.length ∧ ok = true)) : docGo l k ok = (l.length, false) := by rw [docGo, dif_neg h]
theorem docGo_hit (l : List Int) (k : Nat) (h : k < l.length) (hq : l[k] = 62) : docGo l k true = (k + 1, true) := by rw [docGo, dif_pos ⟨h, rfl⟩, if_pos hq]
theorem docGo_quo (l : List Int) (k : Nat) (h : k < l.length) (h1 : l[k] ≠ 62) (hq : isQuo l[k] = true) : docGo l k true = docGo l (quotedF l k).1 (quotedF l k).2 := by
  conv => lhs; rw [docGo]
  rw [dif_pos ⟨h, rfl⟩, if_neg h1, if_pos hq]
theorem docGo_sub (l : List Int) (k : Nat) (h : k < l.length) (hq : l[k] = 91) : docGo l k true = docGo l (subF l k).1 (subF l k).2 := by
  conv => lhs; rw [docGo]
  rw [dif_pos ⟨h, rfl⟩, if_neg (by rw [hq]; decide), if_neg (by rw [hq]; decide), if_pos hq]
theorem docGo_next (l : List Int) (k : Nat) (h : k < l.length) (h1 : l[k] ≠ 62) (h2 : isQuo l[k] = false) (h3 : l[k] ≠ 91) : docGo l k true = docGo l (k + 1) true := by
  conv => lhs; rw [docGo]
  rw [dif_pos ⟨h, rfl⟩, if_neg h1, if_neg (by simp [h2]), if_neg h3]
def docTF (l : List Int) (k : Nat) : Nat × Nat × Bool := (7, (docGo l (k + 9) true).1, (docGo l (k + 9) true).2)
def markupF (l : List Int) (k : Nat) : Nat × Nat × Bool :=
  if startsF l k [60, 33, 45, 45] = true then upToF l 4 k 4 [45, 45, 62]
  else if startsF l k [60, 33, 91, 67, 68, 65, 84, 65, 91] = true then upToF l 6 k 9 [93, 93, 62]
  else if startsF l k [60, 63] = true then upToF l 5 k 2 [63, 62]
  else if startsF l k [60, 33, 68, 79, 67, 84, 89, 80, 69] = true then docTF l k
  else if startsF l k [60, 47] = true then endTF l k
  else if 0 < leadF l (k + 1) then startTF l k
  else (11, k + 1, false)
def isPlain (r : Int) : Bool := r != 60 && (r != 38 && r != -1)
def nextTF (l : List Int) (k : Nat) : Nat × Nat × Bool :=
  if l.getD k 0 = 60 then markupF l k else if l.getD k 0 = 38 then refF l k else if l.getD k 0 = -1 then (11, k + 1, false)
  else (1, k + ((l.drop k).takeWhile isPlain).length, true)
set_option maxHeartbeats 4000000 in
set_option maxRecDepth 100000 in
theorem Doctypes_any (S : Nat → Prop) (A : Option Addr) (n c : Nat) (l : List Int) (k : Nat) (w : World) (hr : Rd w S 1 A n c (rc l)) (hk : k + 9 ≤ l.length) (hl9 : l.length ≤ 1000000000) :
    Calls Try.prog 93 #[.slice A n c, .int .i64 k] w fun e w' => e = .returned (tokV (docTF l k) k) ∧ Below w.heap.size w w' := by
  obtain rfl := hr.rlen
  have hle := hr.le
  have hmx : c ≤ 9223372036854775807 := hr.max
  have HR := Lib.hid hr
  clear hr
  obtain ⟨t, ht⟩ : ∃ t, t = docGo l (k + 9) true := ⟨_, rfl⟩
  have HT := Lib.hid ht
  have HTT : Hid (docTF l k = (7, t.1, t.2)) := by rw [Hid, ht]; rfl
  clear ht
  go_enter Try.func93, Try.ntmps93
  go_wp2
  have HTH0 := Lib.hid (there_lit w #[.int .i64 0, .int .i64 0, .int .i64 0, .bool false] 109)
  have HB0 := Lib.hid (ba w (.cells #[.int .i64 0, .int .i64 0, .int .i64 0, .bool false] 109))
  have HSZ : Hid (w.heap.size < (w.alloc (.cells #[.int .i64 0, .int .i64 0, .int .i64 0, .bool false] 109)).heap.size) := by simp [Hid]
  generalize w.alloc (.cells #[.int .i64 0, .int .i64 0, .int .i64 0, .bool false] 109) = W0 at HTH0 HB0 HSZ
  have HTH0 : Hid (W0.there w.heap.size 0 4) := HTH0.out
  go_loopw [5, 6] (fun o i wr => ∃ (j : Nat) (ok : Bool), j ≤ l.length ∧ i = .int .i64 j ∧ o = .bool ok ∧ Hid (t = docGo l j ok) ∧ Hid (Below w.heap.size w wr) ∧ Hid (wr.there w.heap.size 0 4) ∧ Hid (w.heap.size < wr.heap.size)) (fun _ i _ => l.length - (intOf i).toNat)
  case atStart => exact ⟨k + 9, true, by omega, by go_num, rfl, HT.out, HB0.out, HTH0.out, HSZ.out⟩
  case round =>
    obtain ⟨j, ok, hj, rfl, rfl, HJ, HB, HTH, HLT⟩ := hrel
    by_cases hlt : j < l.length
    · have hji : (j : Int) < (l.length : Int) := by omega
      cases ok with
      | true =>
        obtain ⟨b, o, rfl, hc0⟩ := (HR.out.below HB.out).rune hlt
        have H1 := Lib.hid (docGo_hit l j hlt)
        have H2 := Lib.hid (docGo_quo l j hlt)
        have H3 := Lib.hid (docGo_sub l j hlt)
        have H4 := Lib.hid (docGo_next l j hlt)
        have HQT := Lib.hid (LQuote_any l[j])
        have HQD := Lib.hid (Quoted_any S _ l.length c l j _ (HR.out.below HB.out) hlt hl9)
        have HSB := Lib.hid (Subset_any S _ l.length c l j _ (HR.out.below HB.out) hlt hl9)
        obtain ⟨hg1, hg2⟩ := quotedF_gt l j hlt
        obtain ⟨hs1, hs2⟩ := subF_range l j hlt
        generalize (quotedF l j).1 = qj at HQD H2 hg1 hg2
        generalize (quotedF l j).2 = qb at HQD H2
        generalize (subF l j).1 = sj at HSB H3 hs1 hs2
        generalize (subF l j).2 = sb at HSB H3
        generalize l[j] = r at hc0 HQT H1 H2 H3 H4
        by_cases h62 : r = 62
        · have HE : Hid (docTF l k = (7, j + 1, true)) := by rw [Hid, HTT.out, HJ.out.trans (H1.out h62)]
          subst h62
          clear H1 H2 H3 H4 HJ HTT HQD HSB HQT
          have HL9 := Lib.hid (load_struct (P := Try.prog) (T := 109) wr w.heap.size [.int .i64 7, .int .i64 k, .int .i64 ((j : Int) + 1), .bool true] HTH.out (by kernel_rfl) Try.underlying109 rfl)
          have HB9 := Lib.hid (below_setCells2 HB.out w.heap.size (Nat.le_refl _) [.int .i64 7, .int .i64 k, .int .i64 ((j : Int) + 1), .bool true] 0)
          obtain ⟨⟨z0, hz0⟩, hf0⟩ := there_cell HTH.out 0 (by decide)
          obtain ⟨⟨z1, hz1⟩, hf1⟩ := there_cell HTH.out 1 (by decide)
          obtain ⟨⟨z2, hz2⟩, hf2⟩ := there_cell HTH.out 2 (by decide)
          obtain ⟨⟨z3, hz3⟩, hf3⟩ := there_cell HTH.out 3 (by decide)
          go_wp2
          refine bodyPost_ret (results_cell1 rfl _ rfl HL9.out) rfl ?_
          rw [HE.out]
          exact ⟨by simp [tokV], HB9.out⟩
        · have h62b : (r == 62) = false := by simpa using h62
          have HQT2 := fun W => Lib.hid (HQT.out W)
          cases hq : isQuo r with
          | true =>
            have HN := Lib.hid (HJ.out.trans (H2.out h62 hq))
            rw [hq] at HQT2
            clear H1 H2 H3 H4 HJ HSB HQT h62 hq
            go_wp2_with fail
            refine (HQT2 _).out.mono ?_
            rintro e wx ⟨rfl, rfl⟩
            go_wp2_with fail
            refine HQD.out.mono ?_
            rintro e v2 ⟨rfl, hb2⟩
            have HB2 := Lib.hid (HB.out.trans (hb2.mono HB.out.size))
            have HTH2 := Lib.hid (there_below HTH.out hb2 HLT.out)
            have HLT2 := Lib.hid (Nat.lt_of_lt_of_le HLT.out hb2.size)
            clear hb2
            go_wp2
            go_roundw
            case rel => exact ⟨qj, qb, by omega, rfl, rfl, HN.out, HB2.out, HTH2.out, HLT2.out⟩
            case measure => simp [intOf]; omega
          | false =>
            rw [hq] at HQT2
            by_cases h91 : r = 91
            · have HN := Lib.hid (HJ.out.trans (H3.out h91))
              subst h91
              clear H1 H2 H3 H4 HJ HQD HQT h62 hq
              go_wp2_with fail
              refine (HQT2 _).out.mono ?_
              rintro e wx ⟨rfl, rfl⟩
              go_wp2_with fail
              refine HSB.out.mono ?_
              rintro e v2 ⟨rfl, hb2⟩
              have HB2 := Lib.hid (HB.out.trans (hb2.mono HB.out.size))
              have HTH2 := Lib.hid (there_below HTH.out hb2 HLT.out)
              have HLT2 := Lib.hid (Nat.lt_of_lt_of_le HLT.out hb2.size)
              clear hb2
              go_wp2
              go_roundw
              case rel => exact ⟨sj, sb, by omega, rfl, rfl, HN.out, HB2.out, HTH2.out, HLT2.out⟩
              case measure => simp [intOf]; omega
            · have HN := Lib.hid (HJ.out.trans (H4.out h62 hq h91))
              have h91b : (r == 91) = false := by simpa using h91
              clear H1 H2 H3 H4 HJ HQD HSB HQT h62 hq h91
              go_wp2_with fail
              refine (HQT2 _).out.mono ?_
              rintro e wx ⟨rfl, rfl⟩
              go_wp2
              go_roundw
              case rel => exact ⟨j + 1, true, by omega, by go_num, rfl, HN.out, HB.out, HTH.out, HLT.out⟩
              case measure => simp [intOf]; omega
      | false =>
        have HE : Hid (docTF l k = (7, l.length, false)) := by rw [Hid, HTT.out, HJ.out.trans (docGo_end l j false (by simp))]
        clear HJ HTT
        have HL9 := Lib.hid (load_struct (P := Try.prog) (T := 109) wr w.heap.size [.int .i64 7, .int .i64 k, .int .i64 (l.length), .bool false] HTH.out (by kernel_rfl) Try.underlying109 rfl)
        have HB9 := Lib.hid (below_setCells2 HB.out w.heap.size (Nat.le_refl _) [.int .i64 7, .int .i64 k, .int .i64 (l.length), .bool false] 0)
        obtain ⟨⟨z0, hz0⟩, hf0⟩ := there_cell HTH.out 0 (by decide)
        obtain ⟨⟨z1, hz1⟩, hf1⟩ := there_cell HTH.out 1 (by decide)
        obtain ⟨⟨z2, hz2⟩, hf2⟩ := there_cell HTH.out 2 (by decide)
        obtain ⟨⟨z3, hz3⟩, hf3⟩ := there_cell HTH.out 3 (by decide)
        go_wp2
        refine bodyPost_ret (results_cell1 rfl _ rfl HL9.out) rfl ?_
        rw [HE.out]
        exact ⟨by simp [tokV], HB9.out⟩
    · have hji : ¬ (j : Int) < (l.length : Int) := by omega
      have HE : Hid (docTF l k = (7, l.length, false)) := by rw [Hid, HTT.out, HJ.out.trans (docGo_end l j ok (fun h => hlt h.1))]
      clear HJ HTT
      have HL9 := Lib.hid (load_struct (P := Try.prog) (T := 109) wr w.heap.size [.int .i64 7, .int .i64 k, .int .i64 (l.length), .bool false] HTH.out (by kernel_rfl) Try.underlying109 rfl)
      have HB9 := Lib.hid (below_setCells2 HB.out w.heap.size (Nat.le_refl _) [.int .i64 7, .int .i64 k, .int .i64 (l.length), .bool false] 0)
      obtain ⟨⟨z0, hz0⟩, hf0⟩ := there_cell HTH.out 0 (by decide)
      obtain ⟨⟨z1, hz1⟩, hf1⟩ := there_cell HTH.out 1 (by decide)
      obtain ⟨⟨z2, hz2⟩, hf2⟩ := there_cell HTH.out 2 (by decide)
      obtain ⟨⟨z3, hz3⟩, hf3⟩ := there_cell HTH.out 3 (by decide)
      go_wp2
      refine bodyPost_ret (results_cell1 rfl _ rfl HL9.out) rfl ?_
      rw [HE.out]
      exact ⟨by simp [tokV], HB9.out⟩
end Go.Proofs.Ytblafdmmebiagaa
