/-
  Layer 23 (escape): Value, Text: the program's and the document's. Rows of at most 10000000 runes.
-/
import Derived.Test.YtbbplpmaknaadaaEsc
import Derived.Test.YtbbplpmaknaadaaPutC
namespace Go.Proofs.Ytbbplpmaknaadaa
open Go.RowKit Go.Lib

/-- chains of worlds: sizes looked after -/
theorem bt {a b c : World} (h : Below a.heap.size a b) (k : Below b.heap.size b c) : Below a.heap.size a c := h.trans (k.mono h.size)
theorem ba (w : World) (o : Obj) : Below w.heap.size w (w.alloc o) := (Below.refl _ w).alloc (Nat.le_refl _) _
theorem bg {w w' : World} {v : Value} {base : Nat} {e : TypeId} {size n : Nat} {xs : List Value} (hown : w.ownsRow base e size v n xs) (hg : w.grownBy w' v.ownBlock) {w0 : World} (hb : Below base w0 w) (hle : base ≤ w.heap.size) : Below base w0 w' := below_own hb hle hown hg

theorem own_litN (w : World) (B : Nat) (hB : w.heap.size = B) (t : TypeId) (cs : Array Value) (size n : Nat) (hs : cs.size = n * size) (hm : n ≤ maxLen) (xs : List Value) (hx : cs.toList = xs) :
    (w.alloc (.cells cs t)).ownsRow B t size (.slice (some ⟨B, 0, none⟩) n n) n xs := by
  subst hB hx
  refine ⟨by simpa using hs, .inr ⟨w.heap.size, n, cs, rfl, Nat.le_refl _, ?_, Nat.le_refl _, hm, hs, ?_⟩⟩
  · show (w.heap.push _)[w.heap.size]? = _
    simp
  · rw [← hs]; exact List.take_of_length_le (by simp)

theorem putF_len (l : List Int) (q : Int) : (putF l q).length ≤ 6 * l.length := putTo_len l q l.length
theorem sum3 (a b c : List Int) : sumLen [a, b, c] = a.length + (b.length + c.length) := by simp [sumLen]
theorem RowsEach3 {w : World} {v1 v2 v3 : Value} {l1 l2 l3 : List Int} (h1 : RunesV w v1 l1) (h2 : RunesV w v2 l2) (h3 : RunesV w v3 l3) :
    ∀ (i : Nat) (v : Value) (l : List Int), [v1, v2, v3][i]? = some v → [l1, l2, l3][i]? = some l → RunesV w v l := by
  intro i v l hv hl
  match i with
  | 0 => simp at hv hl; subst hv hl; exact h1
  | 1 => simp at hv hl; subst hv hl; exact h2
  | 2 => simp at hv hl; subst hv hl; exact h3
  | i + 3 => simp at hv

set_option maxHeartbeats 1000000 in
set_option maxRecDepth 100000 in
theorem Text_any (S : Nat → Prop) (A : Option Addr) (n c : Nat) (l : List Int) (w : World) (hr : Rd w S 1 A n c (rc l)) (hn9 : l.length ≤ 10000000) :
    Calls Try.prog 29 #[.slice A n c] w fun e w' => OptV w' (textF l) e ∧ Below w.heap.size w w' := by
  have HC := Lib.hid (All_any S A n c l _ #[] isChar w eg_Char hr (Char_ok w))
  have HP := fun W (hW : Below w.heap.size w W) => Lib.hid (Put_any S A n c l 0 W (hr.below hW) (by omega))
  have HT : Hid (textF l = if l.all isChar then some (putF l 0) else none) := rfl
  generalize textF l = t at HT ⊢
  clear hr
  cases hq : l.all isChar with
  | true =>
    rw [hq] at HC HT
    go_enter Try.func29, Try.ntmps29
    go_wp2_with (first
      | (go_at_call 50; refine HC.out.mono ?_; rintro e w1 ⟨rfl, hb1⟩)
      | (go_at_call 54; refine (HP _ hb1).out.mono ?_; rintro e w2 ⟨v, rfl, ⟨n', ho⟩, hb2⟩))
    go_ret2
    rw [HT.out]
    exact ⟨⟨_, rfl, .of_own ho⟩, hb1.trans (hb2.mono hb1.size)⟩
  | false =>
    rw [hq] at HC HT
    go_enter Try.func29, Try.ntmps29
    go_wp2_with (go_at_call 50; refine HC.out.mono ?_; rintro e w1 ⟨rfl, hb1⟩)
    go_ret2
    rw [HT.out]
    exact ⟨⟨_, rfl, .nil_ _⟩, hb1⟩

set_option maxHeartbeats 1000000 in
set_option maxRecDepth 100000 in
theorem RText23_any (S : Nat → Prop) (A : Option Addr) (n c : Nat) (l : List Int) (w : World) (hr : Rd w S 1 A n c (rc l)) (hn9 : l.length ≤ 10000000) :
    Calls Try.prog 30 #[.slice A n c] w fun e w' => OptV w' (textF l) e ∧ Below w.heap.size w w' := by
  have HC := Lib.hid (RChars_any S A n c l w hr (by omega))
  have HP := fun W (hW : Below w.heap.size w W) => Lib.hid (RPut_any S A n c l 0 W (hr.below hW) (by omega))
  have HT : Hid (textF l = if l.all isChar then some (putF l 0) else none) := rfl
  generalize textF l = t at HT ⊢
  clear hr
  cases hq : l.all isChar with
  | true =>
    rw [hq] at HC HT
    go_enter Try.func30, Try.ntmps30
    go_wp2_with (first
      | (go_at_call 55; refine HC.out.mono ?_; rintro e w1 ⟨rfl, rfl⟩)
      | (go_at_call 56; refine (HP _ (Below.refl _ _)).out.mono ?_; rintro e w2 ⟨v, rfl, ⟨n', ho⟩, hb2⟩))
    go_ret2
    rw [HT.out]
    exact ⟨⟨_, rfl, .of_own ho⟩, hb2⟩
  | false =>
    rw [hq] at HC HT
    go_enter Try.func30, Try.ntmps30
    go_wp2_with (go_at_call 55; refine HC.out.mono ?_; rintro e w1 ⟨rfl, rfl⟩)
    go_ret2
    rw [HT.out]
    exact ⟨⟨_, rfl, .nil_ _⟩, Below.refl _ _⟩

set_option maxHeartbeats 1000000 in
set_option maxRecDepth 100000 in
theorem Value_any (S : Nat → Prop) (A : Option Addr) (n c : Nat) (l : List Int) (q : Int) (w : World) (hr : Rd w S 1 A n c (rc l)) (hn9 : l.length ≤ 10000000) :
    Calls Try.prog 25 #[.slice A n c, .int .i32 q] w fun e w' => OptV w' (valueF l q) e ∧ Below w.heap.size w w' := by
  have HC := Lib.hid (All_any S A n c l _ #[] isChar w eg_Char hr (Char_ok w))
  have HP := fun W (hW : Below w.heap.size w W) => Lib.hid (Put_any S A n c l q W (hr.below hW) (by omega))
  have HT : Hid (valueF l q = if (q == 34 || q == 39) && l.all isChar then some ([q] ++ putF l q ++ [q]) else none) := rfl
  have HPL := Lib.hid (putF_len l q)
  generalize valueF l q = t at HT ⊢
  generalize putF l q = p at HT HP HPL
  clear hr
  by_cases hqq : q = 34 ∨ q = 39
  · have hq3 : (q == 34 || q == 39) = true := by simpa using hqq
    rw [hq3] at HT
    cases hq : l.all isChar with
    | true =>
      rw [hq] at HC HT
      rcases hqq with rfl | rfl
      · go_enter Try.func25, Try.ntmps25
        go_wp2_with (go_at_call 50; refine HC.out.mono ?_; rintro e w1 ⟨rfl, hb1⟩)
        go_wp2_with (first
          | (go_at_call 54
             refine (HP _ (bt hb1 (ba _ _))).out.mono ?_
             rintro e w2 ⟨v, rfl, ⟨n', ho⟩, hb2⟩
             obtain ⟨Ap, cp, rfl, hrp⟩ := own_form ho)
          | (go_at_call 53
             refine (Joined_any (some ⟨w2.heap.size + 1, 0, none⟩) 3 3 [[34], p, [34]] _ _ (RowsV.lit _ _ (by simp) _ _ _ 3 rfl rfl (by decide)
               (RowsEach3 (((RunesV.lit w1 _ rfl _ [34] 1 rfl (by decide) _ rfl).below hb2).alloc _) ((RunesV.of_own ho).alloc _) (RunesV.lit w2 _ rfl _ [34] 1 rfl (by decide) _ rfl)) _ rfl)
               (by rw [sum3]; have := HPL.out; simp; omega)).mono ?_
             rintro e w3 ⟨v3, rfl, ⟨n3, ho3⟩, hb3⟩))
        go_ret2
        rw [HT.out]
        exact ⟨⟨_, rfl, .of_own (own_eq ho3 (by simp))⟩, bt (bt (bt hb1 (ba _ _)) hb2) (bt (bt (ba _ _) (ba _ _)) hb3)⟩
      · go_enter Try.func25, Try.ntmps25
        go_wp2_with (go_at_call 50; refine HC.out.mono ?_; rintro e w1 ⟨rfl, hb1⟩)
        go_wp2_with (first
          | (go_at_call 54
             refine (HP _ (bt hb1 (ba _ _))).out.mono ?_
             rintro e w2 ⟨v, rfl, ⟨n', ho⟩, hb2⟩
             obtain ⟨Ap, cp, rfl, hrp⟩ := own_form ho)
          | (go_at_call 53
             refine (Joined_any (some ⟨w2.heap.size + 1, 0, none⟩) 3 3 [[39], p, [39]] _ _ (RowsV.lit _ _ (by simp) _ _ _ 3 rfl rfl (by decide)
               (RowsEach3 (((RunesV.lit w1 _ rfl _ [39] 1 rfl (by decide) _ rfl).below hb2).alloc _) ((RunesV.of_own ho).alloc _) (RunesV.lit w2 _ rfl _ [39] 1 rfl (by decide) _ rfl)) _ rfl)
               (by rw [sum3]; have := HPL.out; simp; omega)).mono ?_
             rintro e w3 ⟨v3, rfl, ⟨n3, ho3⟩, hb3⟩))
        go_ret2
        rw [HT.out]
        exact ⟨⟨_, rfl, .of_own (own_eq ho3 (by simp))⟩, bt (bt (bt hb1 (ba _ _)) hb2) (bt (bt (ba _ _) (ba _ _)) hb3)⟩
    | false =>
      rw [hq] at HC HT
      rcases hqq with rfl | rfl
      all_goals
        go_enter Try.func25, Try.ntmps25
        go_wp2_with (go_at_call 50; refine HC.out.mono ?_; rintro e w1 ⟨rfl, hb1⟩)
        go_ret2
        rw [HT.out]
        exact ⟨⟨_, rfl, .nil_ _⟩, hb1⟩
  · have h1 : (q == 34) = false := by simp; omega
    have h2 : (q == 39) = false := by simp; omega
    have h3 : (q != 34) = true := by simp; omega
    have h4 : (q != 39) = true := by simp; omega
    rw [h1, h2] at HT
    clear hqq
    go_enter Try.func25, Try.ntmps25
    go_wp2
    go_ret2
    rw [HT.out]
    exact ⟨⟨_, rfl, .nil_ _⟩, Below.refl _ _⟩

set_option maxHeartbeats 1000000 in
set_option maxRecDepth 100000 in
theorem RValue_any (S : Nat → Prop) (A : Option Addr) (n c : Nat) (l : List Int) (q : Int) (w : World) (hr : Rd w S 1 A n c (rc l)) (hn9 : l.length ≤ 10000000) :
    Calls Try.prog 26 #[.slice A n c, .int .i32 q] w fun e w' => OptV w' (valueF l q) e ∧ Below w.heap.size w w' := by
  have HC := Lib.hid (RChars_any S A n c l w hr (by omega))
  have HP := fun W (hW : Below w.heap.size w W) => Lib.hid (RPut_any S A n c l q W (hr.below hW) (by omega))
  have HT : Hid (valueF l q = if (q == 34 || q == 39) && l.all isChar then some ([q] ++ putF l q ++ [q]) else none) := rfl
  have HPL := Lib.hid (putF_len l q)
  generalize valueF l q = t at HT ⊢
  generalize putF l q = p at HT HP HPL
  clear hr
  cases hq : l.all isChar with
  | true =>
    rw [hq] at HC HT
    clear hq
    by_cases hqq : q = 34 ∨ q = 39
    · rcases hqq with rfl | rfl
      all_goals
        go_enter Try.func26, Try.ntmps26
        go_wp2_with (go_at_call 55; refine HC.out.mono ?_; rintro e w1 ⟨rfl, rfl⟩)
        refine (HP _ (ba _ _)).out.mono ?_
        rintro e w2 ⟨v, rfl, ⟨n', ho⟩, hb2⟩
        obtain ⟨Ap, cp, rfl, hrp⟩ := own_form ho
        have hnp : n' ≤ 60000000 := by rw [rc_own_len ho]; have := HPL.out; omega
        have HOL := Lib.hid (own_below (own_litN w _ rfl 21 _ 1 1 rfl (by decide) (rc [_]) rfl) hb2)
        have HB2 := Lib.hid (bt (ba _ _) hb2)
        have HRP := Lib.hid hrp
        clear ho hb2 hrp
        go_wp2_with (first
          | (at_builtin
             refine append_runes _ rfl (.tmp 19) (.tmp 22) rfl w.heap.size _ _ _ rfl HOL.out _ _ n' cp _ rfl HRP.out (by omega) HB2.out.size ?_
             intro A4 c4 w4 hown4 hg4 _ _
             have HB4 := Lib.hid (below_own HB2.out HB2.out.size HOL.out hg4)
             have HO4 := Lib.hid hown4
             clear hown4 hg4)
          | (at_builtin
             refine append_runes _ rfl (.tmp 24) (.tmp 26) rfl w.heap.size _ _ _ rfl (HO4.out.alloc _) _ _ 1 1 [_] rfl (Rd.litN _ w4.heap.size rfl _ #[.int .i32 _] 1 1 rfl (by decide)) (by omega) (by have := HB4.out.size; simp; omega) ?_
             intro A5 c5 w5 hown5 hg5 _ _
             have HB5 := Lib.hid (below_own (HB4.out.alloc HB4.out.size _) (by have := HB4.out.size; simp; omega) (HO4.out.alloc _) hg5)
             have HO5 := Lib.hid hown5
             clear hown5 hg5))
        go_ret2
        rw [HT.out]
        exact ⟨⟨_, rfl, .of_own HO5.out⟩, HB5.out⟩
    · have h1 : (q == 34) = false := by simp; omega
      have h2 : (q == 39) = false := by simp; omega
      have h3 : (q != 34) = true := by simp; omega
      have h4 : (q != 39) = true := by simp; omega
      rw [h1, h2] at HT
      clear hqq
      go_enter Try.func26, Try.ntmps26
      go_wp2_with (go_at_call 55; refine HC.out.mono ?_; rintro e w1 ⟨rfl, rfl⟩)
      go_ret2
      rw [HT.out]
      exact ⟨⟨_, rfl, .nil_ _⟩, Below.refl _ _⟩
  | false =>
    rw [hq, Bool.and_false] at HT
    rw [hq] at HC
    go_enter Try.func26, Try.ntmps26
    go_wp2_with (go_at_call 55; refine HC.out.mono ?_; rintro e w1 ⟨rfl, rfl⟩)
    go_ret2
    rw [HT.out]
    exact ⟨⟨_, rfl, .nil_ _⟩, Below.refl _ _⟩

end Go.Proofs.Ytbbplpmaknaadaa
