/-
  Layer 18 (norm): the walks of the program's Tokens, Blank, few, same. Rows of at most 400000000 runes.
-/
import Derived.Test.YtbbplpmaknaadaaNorm
import Derived.Test.YtbbplpmaknaadaaStr
namespace Go.Proofs.Ytbbplpmaknaadaa
open Go.RowKit

theorem space_ok (w : World) : PredOk Try.prog 48 #[] isSp w := fun W r _ => by
  show Calls Try.prog 48 #[.int .i32 r] W _
  go_enter Try.func48, Try.ntmps48
  go_wp2
  all_goals (go_ret; exact ⟨ret_bool (by simp [isSp, *]), Below.refl _ _⟩)

theorem notspace_ok (w : World) : PredOk Try.prog 49 #[] noSp w := fun W r _ => by
  show Calls Try.prog 49 #[.int .i32 r] W _
  have HS := Lib.hid (space_ok W W r (Below.refl _ _))
  go_enter Try.func49, Try.ntmps49
  go_wp2_with (go_at_call 48; refine HS.out.mono ?_; rintro e w' ⟨rfl, hb⟩)
  go_ret
  exact ⟨ret_bool (by simp [isSp, noSp]), hb⟩

theorem eg_space : ∀ args w, (callFunc 48 args).run Try.prog w = .ok (.enter 48 args) w := enters_of Try.func48 (by kernel_rfl) rfl
theorem eg_notspace : ∀ args w, (callFunc 49 args).run Try.prog w = .ok (.enter 49 args) w := enters_of Try.func49 (by kernel_rfl) rfl

set_option maxHeartbeats 1000000 in
set_option maxRecDepth 100000 in
theorem Tokens_any (S : Nat → Prop) (A : Option Addr) (n c : Nat) (l : List Int) (w : World) (hr : Rd w S 1 A n c (rc l)) (hlen : l.length ≤ 400000000) :
    Calls Try.prog 12 #[.slice A n c] w fun e w' => ∃ v, e = .returned v ∧ (∃ n', w'.ownsRow w.heap.size 21 1 v n' (rc (tokF l))) ∧ Below w.heap.size w w' := by
  have hl : n = l.length := by have := hr.len; simpa using this.symm
  have hle := hr.le
  have hmx : c ≤ 9223372036854775807 := hr.max
  subst hl
  have HR := Lib.hid hr
  clear hr
  have H0 := Lib.hid (Run_any S A l.length c l 0 _ #[] isSp w eg_space HR.out (space_ok w))
  go_enter Try.func12, Try.ntmps12
  go_wp2_with fail
  refine H0.out.mono ?_
  rintro e w0 ⟨rfl, hb0⟩
  have HB0 := Lib.hid hb0
  clear hb0
  go_wp2_with fail
  have hk0 : runF isSp l 0 = (l.takeWhile isSp).length := by simp only [runF]; rw [if_neg (by omega)]; rfl
  obtain ⟨k0, hk0'⟩ : ∃ k0, k0 = runF isSp l 0 := ⟨_, rfl⟩
  rw [← hk0']
  rw [hk0] at hk0'
  clear hk0
  have hpre : k0 ≤ l.length := by rw [hk0']; exact (List.takeWhile_prefix isSp).length_le
  have HS0 : Hid (tokS (l.take k0) = ([], !(l.take k0).isEmpty) ∧ ∀ h : k0 < l.length, l[k0] ≠ 32) := by
    refine ⟨?_, fun h => ?_⟩
    · have h1 : l.take k0 = l.takeWhile isSp := by rw [hk0']; exact take_takeWhile _ _
      have h2 := tok_spaces (l.takeWhile isSp) (fun x hx => by have := takeWhile_sat x hx; simpa [isSp] using this) [] false
      rw [h1]
      simpa [tokS] using h2
    · have h1 := takeWhile_stops (p := isSp) (l := l) (by omega)
      have h2 : l[(l.takeWhile isSp).length]'(by omega) = l[k0] := by congr 1; omega
      rw [h2] at h1
      simpa [isSp] using h1
  clear hk0'
  go_loopw [3, 4] (fun out i wr => ∃ (k : Nat) (o : List Int) (g : Bool), k ≤ l.length ∧ i = .int .i64 k ∧ Hid (tokS (l.take k) = (o, g) ∧ (o ≠ [] → k < l.length → g = true) ∧ ∀ h : k < l.length, l[k] ≠ 32) ∧
      Hid (∃ n', wr.ownsRow w.heap.size 21 1 out n' (rc o)) ∧ Hid (Below w.heap.size w wr))
    (fun _ i _ => l.length - (intOf i).toNat)
  case atStart => exact ⟨k0, [], _, hpre, rfl, ⟨HS0.out.1, fun h => absurd rfl h, HS0.out.2⟩, ⟨0, World.ownsRow_nil _ _ _ _⟩, HB0.out⟩
  case round =>
    obtain ⟨k, o, g, hk, rfl, HS, HO, HB⟩ := hrel
    obtain ⟨no, HO⟩ := HO.out
    obtain rfl := rc_own_len HO
    obtain ⟨Ao, co, rfl, hro⟩ := own_form HO
    have hco : co ≤ 9223372036854775807 := hro.max
    have HO := Lib.hid HO
    clear hro HS0 HB0 H0
    by_cases hlt : k < l.length
    · obtain ⟨n, s, g', hn, hs, h1n, hle2, hS', hne, hnext⟩ := tok_round l k hlt (HS.out.2.2 hlt) o g HS.out.1 (fun h => HS.out.2.1 h hlt)
      have hol : o.length ≤ 2 * k := by
        have h1 := tokS_len (l.take k)
        rw [HS.out.1, List.length_take] at h1
        simp only [] at h1
        omega
      have HN := Lib.hid hn
      have HSS := Lib.hid hs
      have HS' := Lib.hid (And.intro hS' (And.intro hne hnext))
      clear hn hs hS' hne hnext
      obtain ⟨A', hcut, hsl⟩ := HR.out.cutLH Try.underlying22 (fun _ => by simp [go_sem]) (P := Try.prog) (j := k) (k := k + n) (by omega) (by omega)
      have hsl' : ∀ W, (Instr.slice 22 (.slice A l.length c) (some (.int .i64 k)) (some (.int .i64 ((k : Int) + (n : Int)))) none).run Try.prog W = .ok (.slice A' n (c - k)) W := fun W => by
        have := hsl W
        rw [show k + n - k = n by omega] at this
        exact this
      rw [show k + n - k = n by omega, Nat.mul_one, Nat.mul_one, show ((rc l).drop k).take n = rc ((l.drop k).take n) by simp [rc]] at hcut
      have HC := Lib.hid hcut
      clear hcut hsl
      have hlk : k + n ≤ l.length := by omega
      cases o with
      | nil =>
        go_wp2_with fail
        refine (Run_any S A l.length c l k _ #[] noSp wr eg_notspace (HR.out.below HB.out) (notspace_ok wr)).mono ?_
        rintro e w1 ⟨rfl, hb1⟩
        rw [HN.out]
        have HB1 := Lib.hid (below_all HB.out hb1)
        have HO1 := Lib.hid (own_below HO.out hb1)
        clear hb1
        go_wp2_with (first
          | (at_builtin
             refine append_runes _ rfl (.tmp 26) (.tmp 32) rfl w.heap.size _ _ [] rfl HO1.out _ _ n _ ((l.drop k).take n) rfl (HC.out.below HB1.out) (by first | omega | (simp; omega)) HB1.out.size ?_
             intro A2 c2 w2 hown2 hg2 _ _
             have HB2 := Lib.hid (below_own HB1.out HB1.out.size HO1.out hg2)
             have HO2 := Lib.hid hown2
             clear hown2 hg2))
        refine (Run_any S A l.length c l _ _ #[] isSp w2 eg_space (HR.out.below HB2.out) (space_ok w2)).mono ?_
        rintro e w3 ⟨rfl, hb3⟩
        rw [HSS.out]
        have HB3 := Lib.hid (below_all HB2.out hb3)
        have HO3 := Lib.hid (own_below HO2.out hb3)
        clear hb3
        go_wp2
        go_roundw
        case rel => exact ⟨k + n + s, _, g', hle2, by go_num, ⟨by simpa using HS'.out.1, fun _ h => (HS'.out.2.2 h).2, fun h => (HS'.out.2.2 h).1⟩, ⟨_, by simpa using HO3.out⟩, HB3.out⟩
        case measure => simp [intOf]; omega
      | cons a t =>
        have hpos : 0 < (a :: t).length := by simp
        generalize hot : a :: t = o at HO HS HS' hpos hol
        have hone : o ≠ [] := by rw [← hot]; simp
        clear hot
        simp only [if_neg hone] at HS'
        have HNE := Lib.hid hone
        clear hone
        go_wp2_with (first
          | (at_builtin
             refine append_runes _ rfl (.tmp 20) (.tmp 21) rfl w.heap.size _ _ o rfl (HO.out.alloc _) _ _ 1 1 [32] rfl (Rd.lit wr _ #[.int .i32 32] 1 1 rfl (by decide)) (by simp; omega) (by have := HB.out.size; simp; omega) ?_
             intro A0 c0 w0 hown0 hg0 _ _
             have HB0 := Lib.hid (below_own (HB.out.alloc HB.out.size _) (by have := HB.out.size; simp; omega) (HO.out.alloc _) hg0)
             have HO0 := Lib.hid hown0
             clear hown0 hg0))
        refine (Run_any S A l.length c l k _ #[] noSp w0 eg_notspace (HR.out.below HB0.out) (notspace_ok w0)).mono ?_
        rintro e w1 ⟨rfl, hb1⟩
        rw [HN.out]
        have HB1 := Lib.hid (below_all HB0.out hb1)
        have HO1 := Lib.hid (own_below HO0.out hb1)
        clear hb1
        go_wp2_with (first
          | (at_builtin
             refine append_runes _ rfl (.tmp 26) (.tmp 32) rfl w.heap.size _ _ (o ++ [32]) rfl HO1.out _ _ n _ ((l.drop k).take n) rfl (HC.out.below HB1.out) (by first | omega | (simp; omega)) HB1.out.size ?_
             intro A2 c2 w2 hown2 hg2 _ _
             have HB2 := Lib.hid (below_own HB1.out HB1.out.size HO1.out hg2)
             have HO2 := Lib.hid hown2
             clear hown2 hg2))
        refine (Run_any S A l.length c l _ _ #[] isSp w2 eg_space (HR.out.below HB2.out) (space_ok w2)).mono ?_
        rintro e w3 ⟨rfl, hb3⟩
        rw [HSS.out]
        have HB3 := Lib.hid (below_all HB2.out hb3)
        have HO3 := Lib.hid (own_below HO2.out hb3)
        clear hb3
        go_wp2
        go_roundw
        case rel => exact ⟨k + n + s, _, g', hle2, by go_num, ⟨HS'.out.1, fun _ h => (HS'.out.2.2 h).2, fun h => (HS'.out.2.2 h).1⟩, ⟨_, HO3.out⟩, HB3.out⟩
        case measure => simp [intOf]; omega
    · have e : l.take k = l := List.take_of_length_le (by omega)
      rw [e] at HS
      clear e
      go_wp2
      go_ret
      have e : tokF l = o := by rw [tokF, HS.out.1]
      rw [e]
      exact ⟨_, rfl, ⟨_, HO.out⟩, HB.out⟩

/-! ### the law's own few, same -/
set_option maxHeartbeats 400000 in
set_option maxRecDepth 100000 in
theorem few18_any (S : Nat → Prop) (A : Option Addr) (n c : Nat) (l : List Int) (w : World) (hr : Rd w S 1 A n c (rc l)) :
    Calls Try.prog 11 #[.slice A n c] w fun e w' => ∃ A' n', e = .returned (.slice A' n' c) ∧ Rd w S 1 A' n' c (rc (l.take 80)) ∧ w = w' := by
  have hl : n = l.length := by have := hr.len; simpa using this.symm
  have hle := hr.le
  have hmx : c ≤ 9223372036854775807 := hr.max
  subst hl
  by_cases h : 80 < l.length
  · have hr2 := hr.take (k := 80) (by omega)
    rw [show (rc l).take (80 * 1) = rc (l.take 80) by rw [Nat.mul_one, rc, rc, List.map_take]] at hr2
    have HR := Lib.hid hr2
    clear hr2 hr
    go_enter Try.func11, Try.ntmps11
    go_wp2
    go_ret
    exact ⟨_, _, rfl, HR.out, rfl⟩
  · rw [show l.take 80 = l from List.take_of_length_le (by omega)]
    have HR := Lib.hid hr
    clear hr
    go_enter Try.func11, Try.ntmps11
    go_wp2
    go_ret
    exact ⟨_, _, rfl, HR.out, rfl⟩

set_option maxHeartbeats 1000000 in
set_option maxRecDepth 100000 in
theorem same18_any (S T : Nat → Prop) (A B : Option Addr) (n c m d : Nat) (l k : List Int) (w : World) (hr : Rd w S 1 A n c (rc l)) (ht : Rd w T 1 B m d (rc k)) :
    Calls Try.prog 13 #[.slice A n c, .slice B m d] w fun e w' => e = .returned (.bool (l == k)) ∧ Below w.heap.size w w' := by
  have hl : n = l.length := by have := hr.len; simpa using this.symm
  have hk : m = k.length := by have := ht.len; simpa using this.symm
  have hle := hr.le
  have hmx : c ≤ 9223372036854775807 := hr.max
  have hle2 := ht.le
  have hmx2 : d ≤ 9223372036854775807 := ht.max
  subst hl hk
  by_cases hne : l.length = k.length
  · have HR := Lib.hid hr
    have HT := Lib.hid ht
    have hd : ((l.length : Int) != (k.length : Int)) = false := by simp [hne]
    have hd2 : (l.length != k.length) = false := by simp [hne]
    have HE := Lib.hid hne
    have h1 : l.length ≤ k.length := by omega
    have h2 : k.length ≤ l.length := by omega
    clear hr ht hne
    go_enter Try.func13, Try.ntmps13
    go_wp2
    go_loopw [13] (fun i wr => ∃ (j : Nat), j ≤ l.length ∧ i = .int .i64 j ∧ Hid (l.take j = k.take j) ∧ Hid (Below w.heap.size w wr)) (fun i _ => l.length - (intOf i).toNat)
    case atStart => exact ⟨0, Nat.zero_le _, rfl, rfl, Below.refl _ _⟩
    case round =>
      obtain ⟨j, hj, rfl, HS, HB⟩ := hrel
      by_cases hlt : j < l.length
      · obtain ⟨b, o, u, rfl, _, hu, hc⟩ := (HR.out.below HB.out).one hlt
        obtain ⟨hjm, rfl⟩ := rc_get hu
        obtain ⟨b2, o2, u2, rfl, _, hu2, hc2⟩ := (HT.out.below HB.out).one (k := j) (by omega)
        obtain ⟨hjm2, rfl⟩ := rc_get hu2
        clear hu hu2
        have hjk : (j : Int) < (k.length : Int) := by omega
        have hjl : (j : Int) < (l.length : Int) := by omega
        have HX : Hid (∃ h1 h2, l[j]'h1 = l[j] ∧ k[j]'h2 = k[j]) := ⟨hlt, hjm2, rfl, rfl⟩
        generalize e1 : l[j] = x at hc
        generalize e2 : k[j] = y at hc2
        have E1 := Lib.hid e1
        have E2 := Lib.hid e2
        clear e1 e2 HX
        by_cases hxy : x = y
        rotate_left
        · have hb : (x != y) = true := by simpa using hxy
          have HX := Lib.hid hxy
          clear hxy
          go_wp2
          go_quiet (fail)
          go_wp2
          go_ret
          refine ⟨ret_bool ?_, below_drewN HB.out _⟩
          rw [eq_comm, beq_eq_false_iff_ne]
          rintro rfl
          exact HX.out (E1.out.symm.trans E2.out)
        · have hb : (x != y) = false := by simpa using hxy
          have HX := Lib.hid hxy
          clear hxy
          go_wp2
          go_quiet (fail)
          go_wp2
          go_roundw
          case rel =>
            refine ⟨j + 1, by omega, by go_num, ?_, below_drewN HB.out _⟩
            rw [Hid, List.take_succ_eq_append_getElem hjm, List.take_succ_eq_append_getElem hjm2, HS.out, E1.out, E2.out, HX.out]
          case measure => simp [intOf]; omega
      · have hjl : ¬ (j : Int) < (l.length : Int) := by omega
        have e : l.take j = l := List.take_of_length_le (by omega)
        rw [e] at HS
        have e2 : k.take j = k := List.take_of_length_le (by omega)
        rw [e2] at HS
        clear e e2
        go_wp2
        go_ret
        exact ⟨ret_bool (by rw [HS.out]; simp), HB.out⟩
  · have hd : ((l.length : Int) != (k.length : Int)) = true := by rw [bne_iff_ne]; omega
    have hd2 : (l.length != k.length) = true := by simpa using hne
    have HE := Lib.hid hne
    clear hne hr ht
    go_enter Try.func13, Try.ntmps13
    go_wp2
    go_ret
    exact ⟨ret_bool (by rw [eq_comm, beq_eq_false_iff_ne]; rintro rfl; exact HE.out rfl), Below.refl _ _⟩

/-! ### the example -/
theorem Space_ok (w : World) : PredOk Try.prog 51 #[] isSpace w := fun W r _ => (Space_any r W).mono fun _ _ ⟨h1, h2⟩ => ⟨h1, h2 ▸ Below.refl _ _⟩
theorem eg_Space : ∀ args w, (callFunc 51 args).run Try.prog w = .ok (.enter 51 args) w := enters_of Try.func51 (by kernel_rfl) rfl

set_option maxHeartbeats 400000 in
theorem Blank_any (S : Nat → Prop) (A : Option Addr) (n c : Nat) (l : List Int) (w : World) (hr : Rd w S 1 A n c (rc l)) :
    Calls Try.prog 21 #[.slice A n c] w fun e w' => e = .returned (.bool (l.all isSpace)) ∧ Below w.heap.size w w' := by
  have HC := Lib.hid (All_any S A n c l _ #[] isSpace w eg_Space hr (Space_ok w))
  clear hr
  go_enter Try.func21, Try.ntmps21
  go_wp2_with fail
  refine HC.out.mono ?_
  rintro e w1 ⟨rfl, hb⟩
  go_wp2
  go_ret
  exact ⟨rfl, hb⟩

set_option maxHeartbeats 400000 in
set_option maxRecDepth 100000 in
theorem awake18 (w : World) : Calls Try.prog 15 #[] w fun e w' => e = .returned (.bool true) ∧ Below w.heap.size w w' := by
  go_enter Try.func15, Try.ntmps15
  go_wp2_with fail
  refine (Tokens_any _ _ 6 6 [32, 32, 97, 32, 32, 98] _ (Rd.lit w _ _ 1 6 rfl (by decide)) (by simp)).mono ?_
  rintro e w1 ⟨v, rfl, ⟨n', hown⟩, hb⟩
  obtain ⟨A1, c1, rfl, hr1⟩ := own_form hown
  rw [show tokF [32, 32, 97, 32, 32, 98] = [97, 32, 98] by decide] at hr1
  have hcv := run_runes_string hr1 22 9 21 Try.underlying22 Try.underlying21 Try.underlying9
  rw [show runesBytes [97, 32, 98] = ⟨#[97, 32, 98]⟩ by decide +kernel] at hcv
  have HB1 := Lib.hid (below_all ((Below.refl _ w).alloc (Nat.le_refl _) _) hb)
  clear hown hb hr1
  go_wp2_with fail
  refine (Blank_any (fun _ => True) _ 0 0 [] _ Rd.none_).mono ?_
  rintro e w2 ⟨rfl, hb2⟩
  have HB2 := Lib.hid (below_all HB1.out hb2)
  clear hb2
  go_wp2_with fail
  refine (Blank_any _ _ 1 1 [120] _ (Rd.lit w2 _ _ 1 1 rfl (by decide))).mono ?_
  rintro e w3 ⟨rfl, hb3⟩
  have HB3 := Lib.hid (below_all (HB2.out.alloc HB2.out.size _) hb3)
  clear hb3
  go_wp2
  go_ret
  exact ⟨rfl, HB3.out⟩

/-! ### the laws -/
theorem rc_len {w : World} {S : Nat → Prop} {A : Option Addr} {n c : Nat} {l : List Int} (h : Rd w S 1 A n c (rc l)) : n = l.length := by have := h.len; simpa using this.symm

set_option maxHeartbeats 400000 in
set_option maxRecDepth 100000 in
theorem NormTokens_any (S : Nat → Prop) (A : Option Addr) (n c : Nat) (l : List Int) (w : World) (hr : Rd w S 1 A n c (rc l)) :
    Calls Try.prog 3 #[.slice A n c] w fun e w' => e = .returned (.bool true) ∧ Below w.heap.size w w' := by
  have HR := Lib.hid hr
  clear hr
  go_enter Try.func3, Try.ntmps3
  go_wp2_with fail
  refine (few18_any S A n c l _ HR.out).mono ?_
  rintro e w1 ⟨A1, n1, rfl, hr1, rfl⟩
  have HR1 := Lib.hid hr1
  have hlen : (l.take 80).length ≤ 80 := List.length_take_le _ _
  clear hr1
  generalize l.take 80 = m at HR1 hlen
  go_wp2_with fail
  refine (Tokens_any S A1 n1 c m _ HR1.out (by omega)).mono ?_
  rintro e w2 ⟨v, rfl, ⟨n2, hown2⟩, hb2⟩
  have hl2 := tokS_len m
  have hn2 : n2 = (tokF m).length := rc_own_len hown2
  obtain ⟨A2, c2, rfl, hr2⟩ := own_form hown2
  have HB2 := Lib.hid hb2
  have HR2 := Lib.hid hr2
  have hl3 : (tokF m).length ≤ 160 := by rw [tokF]; omega
  clear hb2 hr2 hown2 hl2 hn2
  go_wp2_with fail
  refine (RTokens_any S A1 n1 c m _ (HR1.out.below HB2.out) (by omega)).mono ?_
  rintro e w3 ⟨v, rfl, ⟨n3, hown3⟩, hb3⟩
  obtain ⟨A3, c3, rfl, hr3⟩ := own_form hown3
  have HB3 := Lib.hid (below_all HB2.out hb3)
  have HR23 := Lib.hid (HR2.out.below hb3)
  have HR3 := Lib.hid hr3
  clear hb3 hr3 hown3
  go_wp2_with fail
  refine (same18_any _ _ A2 A3 n2 c2 n3 c3 (tokF m) (tokF m) _ HR23.out HR3.out).mono ?_
  rintro e w4 ⟨rfl, hb4⟩
  rw [beq_self_eq_true]
  have HB4 := Lib.hid (below_all HB3.out hb4)
  have HR24 := Lib.hid (HR23.out.below hb4)
  clear hb4
  go_wp2_with fail
  refine (Tokens_any _ A2 n2 c2 (tokF m) _ HR24.out (by omega)).mono ?_
  rintro e w5 ⟨v, rfl, ⟨n5, hown5⟩, hb5⟩
  obtain ⟨A5, c5, rfl, hr5⟩ := own_form hown5
  rw [tokF_idem] at hr5
  have HB5 := Lib.hid (below_all HB4.out hb5)
  have HR25 := Lib.hid (HR24.out.below hb5)
  have HR5 := Lib.hid hr5
  clear hb5 hr5 hown5
  go_wp2_with fail
  refine (same18_any _ _ A5 A2 n5 c5 n2 c2 (tokF m) (tokF m) _ HR5.out HR25.out).mono ?_
  rintro e w6 ⟨rfl, hb6⟩
  rw [beq_self_eq_true]
  have HB6 := Lib.hid (below_all HB5.out hb6)
  clear hb6
  go_wp2_with fail
  refine (awake18 _).mono ?_
  rintro e w7 ⟨rfl, hb7⟩
  have HB7 := Lib.hid (below_all HB6.out hb7)
  clear hb7
  go_wp2
  go_ret
  exact ⟨rfl, HB7.out⟩

end Go.Proofs.Ytbbplpmaknaadaa
