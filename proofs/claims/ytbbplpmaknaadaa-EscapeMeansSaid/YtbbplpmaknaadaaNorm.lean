/-
  Layer 18 (norm): the walks of the program's and the document's Tokens, ByType, Find, Is, Preserve, and the plain laws. Rows of at most 500000000 runes.
-/
import Derived.Test.YtbbplpmaknaadaaClassB
import Derived.Test.YtbbplpmaknaadaaOwn
namespace Go.Proofs.Ytbbplpmaknaadaa
open Go.RowKit

def tokStep (s : List Int × Bool) (r : Int) : List Int × Bool :=
  if r = 32 then (s.1, true) else ((if s.2 = true ∧ s.1 ≠ [] then s.1 ++ [32] else s.1) ++ [r], false)
def tokS (l : List Int) : List Int × Bool := l.foldl tokStep ([], false)
def tokF (l : List Int) : List Int := (tokS l).1

theorem tokS_snoc (l : List Int) (r : Int) : tokS (l ++ [r]) = tokStep (tokS l) r := by simp [tokS]
theorem tokS_take (l : List Int) (k : Nat) (hk : k < l.length) : tokS (l.take (k + 1)) = tokStep (tokS (l.take k)) l[k] := by
  rw [List.take_succ_eq_append_getElem hk, tokS_snoc]
theorem tokStep_len (s : List Int × Bool) (r : Int) : (tokStep s r).1.length ≤ s.1.length + 2 := by
  unfold tokStep; split
  · simp
  · simp only [List.length_append, List.length_cons, List.length_nil]; split <;> simp
theorem tokS_len (l : List Int) : (tokS l).1.length ≤ 2 * l.length := by
  suffices h : ∀ s : List Int × Bool, (l.foldl tokStep s).1.length ≤ s.1.length + 2 * l.length by simpa [tokS] using h ([], false)
  induction l with
  | nil => simp
  | cons a t ih => intro s; have := ih (tokStep s a); have := tokStep_len s a; simp only [List.foldl_cons, List.length_cons] at *; omega

theorem tokS_idem (l : List Int) : tokS (tokF l) = (tokF l, false) := by
  suffices h : ∀ s : List Int × Bool, tokS s.1 = (s.1, false) → tokS (l.foldl tokStep s).1 = ((l.foldl tokStep s).1, false) from h ([], false) rfl
  induction l with
  | nil => intro s h; exact h
  | cons a t ih =>
    intro s h
    refine ih _ ?_
    unfold tokStep
    split
    · exact h
    · rename_i ha
      split
      · rename_i h2
        rw [tokS_snoc, tokS_snoc, h]
        simp [tokStep, ha, h2.2]
      · rw [tokS_snoc, h]
        simp [tokStep, ha]
theorem tokF_idem (l : List Int) : tokF (tokF l) = tokF l := by
  have := tokS_idem l
  rw [tokF, this]

set_option maxHeartbeats 1000000 in
set_option maxRecDepth 100000 in
theorem RTokens_any (S : Nat → Prop) (A : Option Addr) (n c : Nat) (l : List Int) (w : World) (hr : Rd w S 1 A n c (rc l)) (hlen : l.length ≤ 400000000) :
    Calls Try.prog 14 #[.slice A n c] w fun e w' => ∃ v, e = .returned v ∧ (∃ n', w'.ownsRow w.heap.size 21 1 v n' (rc (tokF l))) ∧ Below w.heap.size w w' := by
  have hl : n = l.length := by have := hr.len; simpa using this.symm
  have hle := hr.le
  have hmx : c ≤ 9223372036854775807 := hr.max
  subst hl
  have HR := Lib.hid hr
  clear hr
  go_enter Try.func14, Try.ntmps14
  go_wp2
  go_loopw [3, 4, 9] (fun out gap i wr => ∃ (k : Nat) (o : List Int) (g : Bool), k ≤ l.length ∧ i = .int .i64 k ∧ gap = .bool g ∧ Hid (tokS (l.take k) = (o, g)) ∧ Hid (∃ n', wr.ownsRow w.heap.size 21 1 out n' (rc o)) ∧ Hid (Below w.heap.size w wr))
    (fun _ _ i _ => l.length - (intOf i).toNat)
  case atStart => exact ⟨0, [], false, Nat.zero_le _, rfl, rfl, rfl, ⟨0, World.ownsRow_nil _ _ _ _⟩, Below.refl _ _⟩
  case round =>
    obtain ⟨k, o, g, hk, rfl, rfl, HS, HO, HB⟩ := hrel
    obtain ⟨no, HO⟩ := HO.out
    obtain rfl := rc_own_len HO
    obtain ⟨Ao, co, rfl, hro⟩ := own_form HO
    have HO := Lib.hid HO
    have hco : co ≤ 9223372036854775807 := hro.max
    clear hro
    by_cases hlt : k < l.length
    · obtain ⟨b, of, u, rfl, _, hu, hc⟩ := (HR.out.below HB.out).one hlt
      obtain ⟨hjm, rfl⟩ := rc_get hu
      clear hu
      have hS := tokS_take l k hlt
      have hol : o.length ≤ 2 * k := by
        have h1 := tokS_len (l.take k)
        rw [HS.out, List.length_take] at h1
        simp only [] at h1
        omega
      rw [HS.out] at hS
      generalize l[k] = r at hc hS
      have HS1 := Lib.hid hS
      clear hS
      by_cases h32 : r = 32
      · subst h32
        go_wp2
        go_roundw
        case rel => exact ⟨k + 1, o, true, by omega, by go_num, rfl, HS1.out, ⟨_, HO.out⟩, HB.out⟩
        case measure => simp [intOf]; omega
      · have hb32 : (r == 32) = false := by simpa using h32
        cases hgo : (g && decide (0 < o.length)) with
        | true =>
          have h1 : g = true := by simp at hgo; exact hgo.1
          have h2 : 0 < o.length := by simp at hgo; exact hgo.2
          clear hgo
          subst h1
          have hs : tokStep (o, true) r = (o ++ [32] ++ [r], false) := by
            have : o ≠ [] := List.length_pos_iff.1 h2
            simp [tokStep, h32, this]
          have HS2 := Lib.hid (HS1.out.trans hs)
          clear hs HS1
          go_wp2_with (first
            | (at_builtin
               refine append_runes _ rfl (.tmp 21) (.tmp 22) rfl w.heap.size _ _ o rfl (HO.out.alloc _) _ _ 1 1 [32] rfl (Rd.lit wr _ #[.int .i32 32] 1 1 rfl (by decide)) (by simp; omega) (by have := HB.out.size; simp; omega) ?_
               intro A1 c1 w1 hown1 hg1 _ _
               have hb1 := below_own (HB.out.alloc HB.out.size _) (by have := HB.out.size; simp; omega) (HO.out.alloc _) hg1
               have HO1 := Lib.hid hown1
               have HB1 := Lib.hid hb1
               clear hown1 hb1)
            | (at_builtin
               refine append_runes _ rfl (.tmp 24) (.tmp 26) rfl w.heap.size _ _ (o ++ [32]) rfl (HO1.out.alloc _) _ _ 1 1 [r] rfl (Rd.lit w1 _ #[.int .i32 r] 1 1 rfl (by decide)) (by simp; omega) (by have := HB1.out.size; simp; omega) ?_
               intro A2 c2 w2 hown2 hg2 _ _
               have hb2 := below_own (HB1.out.alloc HB1.out.size _) (by have := HB1.out.size; simp; omega) (HO1.out.alloc _) hg2
               have HO2 := Lib.hid hown2
               have HB2 := Lib.hid hb2
               clear hown2 hb2))
          go_roundw
          case rel => exact ⟨k + 1, _, false, by omega, by go_num, rfl, HS2.out, ⟨_, HO2.out⟩, HB2.out⟩
          case measure => simp [intOf]; omega
        | false =>
          have hs : tokStep (o, g) r = (o ++ [r], false) := by
            simp only [tokStep, if_neg h32]
            rw [if_neg]
            rintro ⟨h1, h2⟩
            have := List.length_pos_iff.2 h2
            simp [h1, this] at hgo
          have HS2 := Lib.hid (HS1.out.trans hs)
          clear hs HS1
          have HG : (g = false) ∨ (g = true ∧ ¬ 0 < o.length) := by
            cases g with
            | false => exact .inl rfl
            | true => simp only [Bool.true_and, decide_eq_false_iff_not] at hgo; exact .inr ⟨rfl, hgo⟩
          clear hgo
          rcases HG with rfl | ⟨rfl, h0⟩
          all_goals
            go_wp2_with (first
              | (at_builtin
                 refine append_runes _ rfl (.tmp 24) (.tmp 26) rfl w.heap.size _ _ o rfl (HO.out.alloc _) _ _ 1 1 [r] rfl (Rd.lit wr _ #[.int .i32 r] 1 1 rfl (by decide)) (by simp; omega) (by have := HB.out.size; simp; omega) ?_
                 intro A2 c2 w2 hown2 hg2 _ _
                 have hb2 := below_own (HB.out.alloc HB.out.size _) (by have := HB.out.size; simp; omega) (HO.out.alloc _) hg2
                 have HO2 := Lib.hid hown2
                 have HB2 := Lib.hid hb2
                 clear hown2 hb2))
            go_roundw
            case rel => exact ⟨k + 1, _, false, by omega, by go_num, rfl, HS2.out, ⟨_, HO2.out⟩, HB2.out⟩
            case measure => simp [intOf]; omega
    · have e : l.take k = l := List.take_of_length_le (by omega)
      rw [e] at HS
      clear e
      go_wp2
      go_ret
      have e : tokF l = o := by rw [tokF, HS.out]
      rw [e]
      exact ⟨_, rfl, ⟨_, HO.out⟩, HB.out⟩

/-! ### the program's Tokens: word by word -/
theorem tok_word (t : List Int) (h : ∀ x ∈ t, x ≠ 32) (o : List Int) : t.foldl tokStep (o, false) = (o ++ t, false) := by
  induction t generalizing o with
  | nil => simp
  | cons a t ih =>
    have ha : a ≠ 32 := h a (by simp)
    simp only [List.foldl_cons, tokStep, if_neg ha]
    rw [if_neg (by simp), ih (fun x hx => h x (by simp [hx]))]
    simp
theorem tok_spaces (t : List Int) (h : ∀ x ∈ t, x = 32) (o : List Int) (g : Bool) : t.foldl tokStep (o, g) = (o, g || !t.isEmpty) := by
  induction t generalizing g with
  | nil => simp
  | cons a t ih =>
    have ha : a = 32 := h a (by simp)
    simp only [List.foldl_cons, tokStep, if_pos ha]
    rw [ih (fun x hx => h x (by simp [hx]))]
    simp
theorem take_takeWhile (p : Int → Bool) (l : List Int) : l.take (l.takeWhile p).length = l.takeWhile p := (List.prefix_iff_eq_take.1 (List.takeWhile_prefix p)).symm
theorem takeWhile_sat {p : Int → Bool} {l : List Int} : ∀ x ∈ l.takeWhile p, p x = true := by
  induction l with
  | nil => intro x hx; simp at hx
  | cons a t ih =>
    intro x hx
    cases h : p a with
    | true =>
      rw [List.takeWhile_cons, h] at hx
      simp only [if_true, List.mem_cons] at hx
      rcases hx with rfl | hx
      · exact h
      · exact ih x hx
    | false => rw [List.takeWhile_cons, h] at hx; simp at hx
theorem takeWhile_stops {p : Int → Bool} {l : List Int} (h : (l.takeWhile p).length < l.length) : p (l[(l.takeWhile p).length]'h) = false := by
  induction l with
  | nil => simp at h
  | cons a t ih =>
    cases hp : p a with
    | true =>
      simp only [List.takeWhile_cons, hp, if_true, List.length_cons] at h ⊢
      simpa using ih (by simpa using h)
    | false => simp [hp]

def isSp (r : Int) : Bool := r == 32
def noSp (r : Int) : Bool := !(r == 32)

/-- One word and the spaces behind it. -/
theorem tok_round (l : List Int) (k : Nat) (hk : k < l.length) (h32 : l[k] ≠ 32) (o : List Int) (g : Bool) (hs : tokS (l.take k) = (o, g)) (hg : o ≠ [] → g = true) :
    ∃ (n s : Nat) (g' : Bool), runF noSp l k = n ∧ runF isSp l ((k : Int) + (n : Int)) = s ∧ 1 ≤ n ∧ k + n + s ≤ l.length ∧
      tokS (l.take (k + n + s)) = ((if o = [] then [] else o ++ [32]) ++ (l.drop k).take n, g') ∧
      ((if o = [] then [] else o ++ [32]) ++ (l.drop k).take n ≠ []) ∧
      (∀ h : k + n + s < l.length, l[k + n + s] ≠ 32 ∧ g' = true) := by
  obtain ⟨n, hn⟩ : ∃ n, n = ((l.drop k).takeWhile noSp).length := ⟨_, rfl⟩
  have hle : ((l.drop k).takeWhile noSp).length ≤ (l.drop k).length := (List.takeWhile_prefix noSp).length_le
  rw [List.length_drop] at hle
  have hdk : l.drop k = l[k] :: l.drop (k + 1) := List.drop_eq_getElem_cons hk
  have hn1 : 1 ≤ n := by
    rw [hn, hdk, List.takeWhile_cons]
    simp [noSp, h32]
  obtain ⟨s, hss⟩ : ∃ s, s = ((l.drop (k + n)).takeWhile isSp).length := ⟨_, rfl⟩
  have hle2 : ((l.drop (k + n)).takeWhile isSp).length ≤ (l.drop (k + n)).length := (List.takeWhile_prefix isSp).length_le
  rw [List.length_drop] at hle2
  have hw : (l.drop k).take n = (l.drop k).takeWhile noSp := by rw [hn]; exact take_takeWhile _ _
  have hsp : (l.drop (k + n)).take s = (l.drop (k + n)).takeWhile isSp := by rw [hss]; exact take_takeWhile _ _
  have hA : ∀ x ∈ (l.drop k).take n, x ≠ 32 := by
    rw [hw]; intro x hx; have := takeWhile_sat x hx; simpa [noSp] using this
  have hB : ∀ x ∈ (l.drop (k + n)).take s, x = 32 := by
    rw [hsp]; intro x hx; have := takeWhile_sat x hx; simpa [isSp] using this
  have h1 : tokS (l.take (k + n)) = ((if o = [] then [] else o ++ [32]) ++ (l.drop k).take n, false) := by
    rw [List.take_add, tokS, List.foldl_append]
    have : (l.take k).foldl tokStep ([], false) = (o, g) := hs
    rw [this]
    have hcons : (l.drop k).take n = l[k] :: ((l.drop (k + 1)).take (n - 1)) := by
      obtain ⟨m, hm⟩ : ∃ m, n = m + 1 := ⟨n - 1, by omega⟩
      rw [hdk, hm, List.take_succ_cons]
      rfl
    rw [hcons] at hA ⊢
    rw [List.foldl_cons, tokStep, if_neg h32]
    have hA' : ∀ x ∈ (l.drop (k + 1)).take (n - 1), x ≠ 32 := fun x hx => hA x (by simp [hx])
    rw [tok_word _ hA']
    by_cases ho : o = []
    · subst ho; simp
    · simp [ho, hg ho]
  refine ⟨n, s, !((l.drop (k + n)).take s).isEmpty, ?_, ?_, hn1, by omega, ?_, ?_, ?_⟩
  · rw [runF, if_neg (by omega), hn]; simp
  · rw [runF, if_neg (by omega), hss]
    have : ((k : Int) + (n : Int)).toNat = k + n := by omega
    rw [this]
  · rw [List.take_add, tokS, List.foldl_append]
    have : (l.take (k + n)).foldl tokStep ([], false) = _ := h1
    rw [this, tok_spaces _ hB]
    simp
  · intro h
    have := congrArg List.length h
    simp only [List.length_append, List.length_take, List.length_drop, List.length_nil] at this
    omega
  · intro h
    have hlt : ((l.drop (k + n)).takeWhile isSp).length < (l.drop (k + n)).length := by rw [List.length_drop]; omega
    have h2 := takeWhile_stops hlt
    have h3 : (l.drop (k + n))[((l.drop (k + n)).takeWhile isSp).length] = l[k + n + s] := by
      rw [List.getElem_drop]; congr 1; omega
    rw [h3] at h2
    have h4 : l[k + n + s] ≠ 32 := by simpa [isSp] using h2
    refine ⟨h4, ?_⟩
    cases hs0 : s with
    | zero =>
      exfalso
      have hlt2 : ((l.drop k).takeWhile noSp).length < (l.drop k).length := by rw [List.length_drop]; omega
      have h5 := takeWhile_stops hlt2
      have h6 : (l.drop k)[((l.drop k).takeWhile noSp).length] = l[k + n + s] := by
        rw [List.getElem_drop]; congr 1; omega
      rw [h6] at h5
      simp [noSp] at h5
      exact h4 h5
    | succ m =>
      have : (List.take (m + 1) (List.drop (k + n) l)) ≠ [] := by
        intro h0
        have := congrArg List.length h0
        simp only [List.length_take, List.length_drop, List.length_nil] at this
        omega
      cases hh : List.take (m + 1) (List.drop (k + n) l) with
      | nil => exact absurd hh this
      | cons => rfl

end Go.Proofs.Ytbbplpmaknaadaa
