/-
  Layer 18 (norm): ByType, Preserve, Is, and the laws NormTypes, NormBlank.
-/
import Derived.Test.YtbbplpmaknaadaaNormB
import Derived.Test.YtbbplpmaknaadaaStrB
import Derived.Test.YtbbplpmaknaadaaSlices
namespace Go.Proofs.Ytbbplpmaknaadaa
open Go.RowKit

def preserveB : List UInt8 := [112, 114, 101, 115, 101, 114, 118, 101]
def defaultB : List UInt8 := [100, 101, 102, 97, 117, 108, 116]
def codes (b : List UInt8) : List Int := b.map fun x => (x.toNat : Int)
def preserveF (was : Bool) (l : List Int) : Bool := if l = codes preserveB then true else if l = codes defaultB then false else was

set_option maxHeartbeats 400000 in
set_option maxRecDepth 100000 in
theorem Preserve_any (S : Nat → Prop) (A : Option Addr) (n c : Nat) (l : List Int) (was : Bool) (w : World) (hr : Rd w S 1 A n c (rc l)) :
    Calls Try.prog 22 #[.bool was, .slice A n c] w fun e w' => e = .returned (.bool (preserveF was l)) ∧ w = w' := by
  have hcv := run_runes_string hr 22 9 21 Try.underlying22 Try.underlying21 Try.underlying9
  have hp := runes_beq l preserveB (by decide)
  have hd := runes_beq l defaultB (by decide)
  clear hr
  generalize runesBytes l = s at hcv hp hd
  by_cases h1 : l = codes preserveB
  · have HF : Hid (preserveF was l = true) := by rw [Hid, preserveF, if_pos h1]
    have hp' : (s.toList == [112, 114, 101, 115, 101, 114, 118, 101]) = true := hp.trans (decide_eq_true h1)
    clear hp hd h1
    go_enter Try.func22, Try.ntmps22
    go_wp2
    go_ret
    exact ⟨ret_bool HF.out.symm, rfl⟩
  · have hp' : (s.toList == [112, 114, 101, 115, 101, 114, 118, 101]) = false := hp.trans (decide_eq_false h1)
    by_cases h2 : l = codes defaultB
    · have HF : Hid (preserveF was l = false) := by rw [Hid, preserveF, if_neg h1, if_pos h2]
      have hd' : (s.toList == [100, 101, 102, 97, 117, 108, 116]) = true := hd.trans (decide_eq_true h2)
      clear hp hd h1 h2
      go_enter Try.func22, Try.ntmps22
      go_wp2
      go_ret
      exact ⟨ret_bool HF.out.symm, rfl⟩
    · have HF : Hid (preserveF was l = was) := by rw [Hid, preserveF, if_neg h1, if_neg h2]
      have hd' : (s.toList == [100, 101, 102, 97, 117, 108, 116]) = false := hd.trans (decide_eq_false h2)
      clear hp hd h1 h2
      go_enter Try.func22, Try.ntmps22
      go_wp2
      go_ret
      exact ⟨ret_bool HF.out.symm, rfl⟩

def isSpaceR (r : Int) : Bool := r == 9 || r == 10 || r == 13 || r == 32
theorem isSpace_eq (r : Int) : isSpaceR r = isSpace r := by
  unfold isSpaceR isSpace; cases (r == 9) <;> cases (r == 10) <;> cases (r == 13) <;> cases (r == 32) <;> rfl

set_option maxHeartbeats 400000 in
theorem RSpace_any (r : Int) (w : World) : Calls Try.prog 19 #[.int .i32 r] w fun e w' => e = .returned (.bool (isSpace r)) ∧ w = w' := by
  rw [← isSpace_eq]
  go_enter Try.func19, Try.ntmps19
  go_wp2
  all_goals (go_ret; exact ⟨ret_bool (by simp [isSpaceR, *]), rfl⟩)

theorem eq_of_take {α : Type} {l k : List α} {j : Nat} (h : l.take j = k.take j) (hl : j < l.length) (hk : j < k.length) (he : l[j] = k[j]) : l.take (j + 1) = k.take (j + 1) := by
  rw [List.take_succ_eq_append_getElem hl, List.take_succ_eq_append_getElem hk, h, he]

set_option maxHeartbeats 1000000 in
set_option maxRecDepth 100000 in
theorem Is_any (S : Nat → Prop) (A : Option Addr) (n c : Nat) (l : List Int) (s : ByteArray) (w : World) (hr : Rd w S 1 A n c (rc l)) (hs : s.size ≤ 1000000) :
    Calls Try.prog 20 #[.slice A n c, .string s] w fun e w' => e = .returned (.bool (l == codes s.data.toList)) ∧ Below w.heap.size w w' := by
  have hle := hr.le
  have hmx : c ≤ 9223372036854775807 := hr.max
  obtain rfl := rc_len hr
  have hcl : (codes s.data.toList).length = s.size := by simp [codes]
  by_cases hne : l.length = s.size
  · have HR := Lib.hid hr
    have hd : ((l.length : Int) != (s.size : Int)) = false := by simp [hne]
    have hd2 : (l.length != s.size) = false := by simp [hne]
    have HE := Lib.hid hne
    have HCL := Lib.hid hcl
    have h1 : l.length ≤ s.size := by omega
    have h2 : s.size ≤ l.length := by omega
    clear hr hne hcl
    go_enter Try.func20, Try.ntmps20
    go_wp2
    go_loopw [13] (fun i wr => ∃ (j : Nat), j ≤ l.length ∧ i = .int .i64 j ∧ Hid (l.take j = (codes s.data.toList).take j) ∧ Hid (Below w.heap.size w wr)) (fun i _ => l.length - (intOf i).toNat)
    case atStart => exact ⟨0, Nat.zero_le _, rfl, rfl, Below.refl _ _⟩
    case round =>
      obtain ⟨j, hj, rfl, HS, HB⟩ := hrel
      by_cases hlt : j < l.length
      · obtain ⟨b, o, u, rfl, _, hu, hc⟩ := (HR.out.below HB.out).one hlt
        obtain ⟨hjm, rfl⟩ := rc_get hu
        clear hu
        have hjl : (j : Int) < (l.length : Int) := by omega
        have hjs : j < s.size := by omega
        have hjs2 : (j : Int) < (s.size : Int) := by omega
        generalize e1 : l[j] = x at hc
        have E1 := Lib.hid e1
        have HX : Hid ((codes s.data.toList)[j]'(by rw [HCL.out]; exact hjs) = ((s[j]'hjs).toNat : Int)) := by
          simp only [Hid, codes, List.getElem_map]; rfl
        clear e1
        go_wp2
        go_quiet (fail)
        go_wp2
        · have h : (x != wrap32 ((s[j]'hjs).toNat : Int)) = true := by assumption
          have hw : wrap32 ((s[j]'hjs).toNat : Int) = ((s[j]'hjs).toNat : Int) := IntWalk.wrap32_in _ (by have := (s[j]'hjs).toNat_lt; omega)
          rw [hw] at h
          go_ret
          refine ⟨ret_bool ?_, below_drewN HB.out _⟩
          rw [eq_comm, beq_eq_false_iff_ne]
          intro he
          rw [bne_iff_ne] at h
          apply h
          rw [← E1.out, ← HX.out]
          congr 1
        · have h : (x != wrap32 ((s[j]'hjs).toNat : Int)) = false := by assumption
          have hw : wrap32 ((s[j]'hjs).toNat : Int) = ((s[j]'hjs).toNat : Int) := IntWalk.wrap32_in _ (by have := (s[j]'hjs).toNat_lt; omega)
          rw [hw] at h
          go_roundw
          case rel =>
            refine ⟨j + 1, by omega, by go_num, eq_of_take HS.out hjm (by rw [HCL.out]; exact hjs) ?_, below_drewN HB.out _⟩
            rw [bne_eq_false_iff_eq] at h
            rw [E1.out, HX.out, h]
          case measure => simp [intOf]; omega
      · have e : l.take j = l := List.take_of_length_le (by omega)
        have e2 : (codes s.data.toList).take j = codes s.data.toList := List.take_of_length_le (by rw [HCL.out]; omega)
        rw [e, e2] at HS
        clear e e2
        go_wp2
        go_ret
        exact ⟨ret_bool (by rw [HS.out]; simp), HB.out⟩
  · have hd : ((l.length : Int) != (s.size : Int)) = true := by rw [bne_iff_ne]; omega
    have hd2 : (l.length != s.size) = true := by simpa using hne
    have HE : Hid (¬ l = codes s.data.toList) := by
      intro he
      exact hne (by rw [he, hcl])
    clear hne hr hcl
    go_enter Try.func20, Try.ntmps20
    go_wp2
    go_ret
    exact ⟨ret_bool (by rw [eq_comm, beq_eq_false_iff_ne]; exact HE.out), Below.refl _ _⟩

/-! ### ByType -/
def cdataB : List UInt8 := [67, 68, 65, 84, 65]
def byType (s : ByteArray) (l : List Int) : List Int := if s.toList = [] ∨ s.toList = cdataB then l else tokF l

set_option maxHeartbeats 1000000 in
set_option maxRecDepth 100000 in
theorem ByType_any (S : Nat → Prop) (A : Option Addr) (n c : Nat) (s : ByteArray) (l : List Int) (w : World) (hr : Rd w S 1 A n c (rc l)) (hlen : l.length ≤ 400000000) :
    Calls Try.prog 16 #[.string s, .slice A n c] w fun e w' => ∃ v, e = .returned v ∧ RunesV w' v (byType s l) ∧ Below w.heap.size w w' := by
  obtain rfl := rc_len hr
  have hle := hr.le
  have hmx : c ≤ 9223372036854775807 := hr.max
  have HR := Lib.hid hr
  clear hr
  by_cases h : s.toList = [] ∨ s.toList = cdataB
  · have HF : Hid (byType s l = l) := by rw [Hid, byType, if_pos h]
    have HK : (s.toList.isEmpty = true) ∨ (s.toList.isEmpty = false ∧ (s.toList == [67, 68, 65, 84, 65]) = true) := by
      rcases h with h | h
      · left; rw [h]; rfl
      · right; rw [h]; decide
    clear h
    rcases HK with h1 | ⟨h1, h2⟩
    all_goals
      go_enter Try.func16, Try.ntmps16
      go_wp2_with (first
        | (at_builtin
           refine append_runes _ rfl (.const (.slice none 0 0)) (.tmp 11) rfl w.heap.size _ 0 [] rfl (World.ownsRow_nil _ _ _ _) S _ l.length _ l rfl HR.out (by omega) (Nat.le_refl _) ?_
           intro A2 c2 w2 hown2 hg2 _ _
           simp only [Nat.zero_add, List.nil_append] at hown2
           have HB2 := Lib.hid (below_own (Below.refl _ w) (Nat.le_refl _) (World.ownsRow_nil w w.heap.size 21 1) hg2)
           have HO2 := Lib.hid hown2
           clear hown2 hg2))
      go_ret
      exact ⟨_, rfl, by rw [HF.out]; exact RunesV.of_own HO2.out, HB2.out⟩
  · have HF : Hid (byType s l = tokF l) := by rw [Hid, byType, if_neg h]
    have h1 : s.toList.isEmpty = false := by
      cases h0 : s.toList with
      | nil => exact absurd (.inl h0) h
      | cons => rfl
    have h2 : (s.toList == [67, 68, 65, 84, 65]) = false := by
      rw [beq_eq_false_iff_ne]; exact fun h3 => h (.inr h3)
    clear h
    go_enter Try.func16, Try.ntmps16
    go_wp2_with fail
    refine (Tokens_any S A l.length c l _ HR.out hlen).mono ?_
    rintro e w1 ⟨v, rfl, ⟨n1, hown⟩, hb⟩
    obtain ⟨A1, c1, rfl, _⟩ := own_form hown
    have HO := Lib.hid hown
    clear hown
    go_wp2
    go_ret
    exact ⟨_, rfl, by rw [HF.out]; exact RunesV.of_own HO.out, hb⟩

set_option maxHeartbeats 1000000 in
set_option maxRecDepth 100000 in
theorem RByType_any (S : Nat → Prop) (A : Option Addr) (n c : Nat) (s : ByteArray) (l : List Int) (w : World) (hr : Rd w S 1 A n c (rc l)) (hlen : l.length ≤ 400000000) :
    Calls Try.prog 17 #[.string s, .slice A n c] w fun e w' => ∃ v, e = .returned v ∧ RunesV w' v (byType s l) ∧ Below w.heap.size w w' := by
  obtain rfl := rc_len hr
  have hle := hr.le
  have hmx : c ≤ 9223372036854775807 := hr.max
  have HR := Lib.hid hr
  clear hr
  by_cases h : s.toList = [] ∨ s.toList = cdataB
  · have HF : Hid (byType s l = l) := by rw [Hid, byType, if_pos h]
    have HK : ((s.toList == [67, 68, 65, 84, 65]) = true) ∨ ((s.toList == [67, 68, 65, 84, 65]) = false ∧ s.toList.isEmpty = true) := by
      rcases h with h | h
      · right; rw [h]; decide
      · left; rw [h]; decide
    clear h
    rcases HK with h1 | ⟨h1, h2⟩
    all_goals
      go_enter Try.func17, Try.ntmps17
      go_wp2
      go_ret
      exact ⟨_, rfl, by rw [HF.out]; exact ⟨_, _, _, rfl, HR.out.more fun _ _ => trivial⟩, Below.refl _ _⟩
  · have HF : Hid (byType s l = tokF l) := by rw [Hid, byType, if_neg h]
    have h1 : s.toList.isEmpty = false := by
      cases h0 : s.toList with
      | nil => exact absurd (.inl h0) h
      | cons => rfl
    have h2 : (s.toList == [67, 68, 65, 84, 65]) = false := by
      rw [beq_eq_false_iff_ne]; exact fun h3 => h (.inr h3)
    clear h
    go_enter Try.func17, Try.ntmps17
    go_wp2_with fail
    refine (RTokens_any S A l.length c l _ HR.out hlen).mono ?_
    rintro e w1 ⟨v, rfl, ⟨n1, hown⟩, hb⟩
    obtain ⟨A1, c1, rfl, _⟩ := own_form hown
    have HO := Lib.hid hown
    clear hown
    go_wp2
    go_ret
    exact ⟨_, rfl, by rw [HF.out]; exact RunesV.of_own HO.out, hb⟩

set_option maxHeartbeats 400000 in
set_option maxRecDepth 100000 in
theorem NormTypes_any (S : Nat → Prop) (s : ByteArray) (A : Option Addr) (n c : Nat) (l : List Int) (w : World) (hr : Rd w S 1 A n c (rc l)) :
    Calls Try.prog 4 #[.string s, .slice A n c] w fun e w' => e = .returned (.bool true) ∧ Below w.heap.size w w' := by
  have HR := Lib.hid hr
  clear hr
  go_enter Try.func4, Try.ntmps4
  go_wp2_with fail
  refine (few18_any S A n c l _ HR.out).mono ?_
  rintro e w1 ⟨A1, n1, rfl, hr1, rfl⟩
  have HR1 := Lib.hid hr1
  have hlen : (l.take 80).length ≤ 80 := List.length_take_le _ _
  clear hr1
  generalize l.take 80 = m at HR1 hlen
  go_wp2_with fail
  refine (ByType_any S A1 n1 c s m _ HR1.out (by omega)).mono ?_
  rintro e w2 ⟨v, rfl, ⟨A2, n2, c2, rfl, hr2⟩, hb2⟩
  have HB2 := Lib.hid hb2
  have HR2 := Lib.hid hr2
  clear hb2 hr2
  go_wp2_with fail
  refine (RByType_any S A1 n1 c s m _ (HR1.out.below HB2.out) (by omega)).mono ?_
  rintro e w3 ⟨v, rfl, ⟨A3, n3, c3, rfl, hr3⟩, hb3⟩
  have HB3 := Lib.hid (below_all HB2.out hb3)
  have HR23 := Lib.hid (HR2.out.below hb3)
  have HR3 := Lib.hid hr3
  clear hb3 hr3
  go_wp2_with fail
  refine (same18_any _ _ A2 A3 n2 c2 n3 c3 (byType s m) (byType s m) _ HR23.out HR3.out).mono ?_
  rintro e w4 ⟨rfl, hb4⟩
  rw [beq_self_eq_true]
  have HB4 := Lib.hid (below_all HB3.out hb4)
  clear hb4
  go_wp2_with fail
  refine (awake18 _).mono ?_
  rintro e w7 ⟨rfl, hb7⟩
  have HB7 := Lib.hid (below_all HB4.out hb7)
  clear hb7
  go_wp2
  go_ret
  exact ⟨rfl, HB7.out⟩

/-! ### NormBlank -/
theorem all_take_succ (p : Int → Bool) (l : List Int) (k : Nat) (hk : k < l.length) : (l.take (k + 1)).all p = ((l.take k).all p && p l[k]) := by
  rw [List.take_succ_eq_append_getElem hk, List.all_append]; simp

set_option maxHeartbeats 1000000 in
set_option maxRecDepth 100000 in
theorem NormBlank_any (S : Nat → Prop) (A : Option Addr) (n c : Nat) (l : List Int) (was : Bool) (w : World) (hr : Rd w S 1 A n c (rc l)) :
    Calls Try.prog 6 #[.slice A n c, .bool was] w fun e w' => e = .returned (.bool true) ∧ Below w.heap.size w w' := by
  have HR := Lib.hid hr
  clear hr
  go_enter Try.func6, Try.ntmps6
  go_wp2_with fail
  refine (few18_any S A n c l _ HR.out).mono ?_
  rintro e w1 ⟨A1, n1, rfl, hr1, rfl⟩
  have hlen : (l.take 80).length ≤ 80 := List.length_take_le _ _
  generalize l.take 80 = m at hr1 hlen
  obtain rfl := rc_len hr1
  have hle := hr1.le
  have hmx : c ≤ 9223372036854775807 := hr1.max
  have HR1 := Lib.hid hr1
  clear hr1
  go_wp2
  go_loopw [5, 13] (fun bl i wr => ∃ (k : Nat), k ≤ m.length ∧ i = .int .i64 k ∧ bl = .bool ((m.take k).all isSpace) ∧ Hid (Below w.heap.size w wr)) (fun _ i _ => m.length - (intOf i).toNat)
  case atStart => exact ⟨0, Nat.zero_le _, rfl, rfl, Below.refl _ _⟩
  case round =>
    obtain ⟨k, hk, rfl, rfl, HB⟩ := hrel
    by_cases hlt : k < m.length
    · obtain ⟨b, o, u, rfl, _, hu, hc⟩ := (HR1.out.below HB.out).one hlt
      obtain ⟨hjm, rfl⟩ := rc_get hu
      clear hu
      have hS := all_take_succ isSpace m k hlt
      generalize (m.take k).all isSpace = g at hS ⊢
      generalize e1 : m[k] = x at hc hS
      have HS := Lib.hid hS
      clear hS e1
      cases g with
      | true =>
        go_wp2_with (go_at_call 19; refine (RSpace_any x _).mono ?_; rintro e w' ⟨rfl, rfl⟩)
        go_roundw
        case rel => exact ⟨k + 1, by omega, by go_num, by rw [HS.out]; rfl, HB.out⟩
        case measure => simp [intOf]; omega
      | false =>
        go_wp2
        go_roundw
        case rel => exact ⟨k + 1, by omega, by go_num, by rw [HS.out]; rfl, HB.out⟩
        case measure => simp [intOf]; omega
    · have e : m.take k = m := List.take_of_length_le (by omega)
      rw [e]
      clear e
      generalize hbl : m.all isSpace = bl
      have HBL := Lib.hid hbl
      clear hbl
      go_wp2_with fail
      refine (Is_any S A1 _ c m _ _ (HR1.out.below HB.out) (by decide)).mono ?_
      rintro e w2 ⟨rfl, hb2⟩
      have HB2 := Lib.hid (below_all HB.out hb2)
      clear hb2
      have e1 : codes ({ data := #[112, 114, 101, 115, 101, 114, 118, 101] } : ByteArray).data.toList = codes preserveB := rfl
      rw [e1]
      clear e1
      generalize hp1 : (m == codes preserveB) = p1
      have HP1 := Lib.hid hp1
      clear hp1
      have hcall := fun W (hb : Below w.heap.size w W) => Is_any S A1 _ c m ⟨#[100, 101, 102, 97, 117, 108, 116]⟩ W (HR1.out.below hb) (by decide)
      have e1 : codes ({ data := #[100, 101, 102, 97, 117, 108, 116] } : ByteArray).data.toList = codes defaultB := rfl
      rw [e1] at hcall
      clear e1
      generalize hp2 : (m == codes defaultB) = p2 at hcall
      have HP2 := Lib.hid hp2
      have HCALL := Lib.hid hcall
      clear hp2 hcall
      have HW : Hid (preserveF was m = if p1 = true then true else if p2 = true then false else was) := by
        have h1 := HP1.out
        have h2 := HP2.out
        rw [Hid, preserveF]
        subst h1 h2
        simp
      have HX : (p1 = true ∧ p2 = false) ∨ (p1 = false ∧ p2 = true) ∨ (p1 = false ∧ p2 = false) := by
        cases p1 <;> cases p2 <;> simp
        have h1 := HP1.out
        have h2 := HP2.out
        simp only [beq_iff_eq] at h1 h2
        rw [h1] at h2
        exact absurd h2 (by decide)
      generalize hpf : preserveF was m = pf at HW
      have HPV : Hid (∀ W, Below w.heap.size w W → Calls Try.prog 22 #[.bool was, .slice A1 m.length c] W fun e w' => e = .returned (.bool pf) ∧ W = w') := by
        intro W hW
        have := Preserve_any S A1 _ c m was W (HR1.out.below hW)
        rw [hpf] at this
        exact this
      clear hpf
      rcases HX with ⟨rfl, rfl⟩ | ⟨rfl, rfl⟩ | ⟨rfl, rfl⟩
      all_goals
        go_wp2_with fail
        refine (HCALL.out w2 HB2.out).mono ?_
        rintro e w3 ⟨rfl, hb3⟩
        have HB3 := Lib.hid (below_all HB2.out hb3)
        clear hb3
        go_wp2_with fail
        refine (Blank_any S A1 _ c m _ (HR1.out.below HB3.out)).mono ?_
        rintro e w4 ⟨rfl, hb4⟩
        rw [HBL.out]
        have HB4 := Lib.hid (below_all HB3.out hb4)
        clear hb4
        have hbb : (bl == bl) = true := beq_self_eq_true bl
        go_wp2_with fail
        refine (HPV.out w4 HB4.out).mono ?_
        rintro e w5 ⟨rfl, rfl⟩
        have h := HW.out
        simp only [if_true, Bool.false_eq_true, if_false] at h
        have hq : (pf == pf) = true := beq_self_eq_true pf
        subst h
        go_wp2_with fail
        refine (awake18 _).mono ?_
        rintro e w7 ⟨rfl, hb7⟩
        have HB7 := Lib.hid (below_all HB4.out hb7)
        clear hb7
        go_wp2
        go_ret
        exact ⟨rfl, HB7.out⟩

end Go.Proofs.Ytbbplpmaknaadaa
