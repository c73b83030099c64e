/-
  Layer 23 (escape): chars, has, Quote, joined, Value, Text: the program's and the document's.
-/
import Derived.Test.YtbbplpmaknaadaaPutB
import Derived.Test.YtbbplpmaknaadaaPutE
namespace Go.Proofs.Ytbbplpmaknaadaa
open Go.RowKit Go.Lib

/-- runes, or none: as a pair of results -/
def OptV (w : World) (r : Option (List Int)) (e : Ending) : Prop := ∃ v, e = .returned (.tuple #[v, .bool r.isSome]) ∧ RunesV w v (r.getD [])
def quoteF (l : List Int) : Int := if l.contains 34 && !l.contains 39 then 39 else 34
def valueF (l : List Int) (q : Int) : Option (List Int) := if (q == 34 || q == 39) && l.all isChar then some ([q] ++ putF l q ++ [q]) else none
def textF (l : List Int) : Option (List Int) := if l.all isChar then some (putF l 0) else none

theorem RunesV.lit (w : World) (B : Nat) (hB : w.heap.size = B) (t : TypeId) (l : List Int) (n : Nat) (hn : l.length = n) (hm : n ≤ maxLen) (cs : Array Value) (hcs : cs.toList = rc l) : RunesV (w.alloc (.cells cs t)) (.slice (some ⟨B, 0, none⟩) n n) l := by
  subst hn
  refine .of_rd (S := fun b => B ≤ b) ?_
  have := Rd.litN w B hB t cs 1 l.length (by have := congrArg List.length hcs; simpa using this) hm
  rwa [hcs] at this
theorem RunesV.nil_ (w : World) : RunesV w (.slice none 0 0) [] := .of_rd (S := fun _ => True) Rd.none_
theorem RunesV.len {w : World} {v : Value} {l : List Int} (h : RunesV w v l) : ∃ A c, v = .slice A l.length c ∧ Rd w (fun _ => True) 1 A l.length c (rc l) := by
  obtain ⟨A, n, c, rfl, hr⟩ := h
  obtain rfl := hr.rlen
  exact ⟨A, c, rfl, hr⟩

theorem RowsV.lit (w : World) (B : Nat) (hB : w.heap.size = B) (t : TypeId) (vs : List Value) (ls : List (List Int)) (n : Nat) (hn : vs.length = n) (hl : vs.length = ls.length) (hm : n ≤ maxLen)
    (h : ∀ (i : Nat) (v : Value) (l : List Int), vs[i]? = some v → ls[i]? = some l → RunesV w v l) (cs : Array Value) (hcs : cs.toList = vs) : RowsV (w.alloc (.cells cs t)) (some ⟨B, 0, none⟩) n n ls vs := by
  subst hcs
  refine ⟨?_, hl, fun i v l h1 h2 => (h i v l h1 h2).alloc _⟩
  subst hn
  exact (Rd.litN w B hB t cs 1 cs.toList.length (by simp) hm).more fun _ _ => trivial

theorem Char_ok (w : World) : PredOk Try.prog 52 #[] isChar w := fun W r _ => Char_any r W
theorem eg_Char : ∀ args w, (callFunc 52 args).run Try.prog w = .ok (.enter 52 args) w := enters_of Try.func52 (by kernel_rfl) rfl

set_option maxHeartbeats 400000 in
set_option maxRecDepth 100000 in
theorem Joined_any (A : Option Addr) (n c : Nat) (ls : List (List Int)) (vs : List Value) (w : World) (hr : RowsV w A n c ls vs) (hsum : sumLen ls ≤ 1000000000) :
    Calls Try.prog 53 #[.slice A n c] w fun e w' => ∃ v, e = .returned v ∧ (∃ n', w'.ownsRow w.heap.size 21 1 v n' (rc ls.flatten)) ∧ Below w.heap.size w w' := by
  have HC := Lib.hid (Concat_any A n c ls vs w hr hsum)
  clear hr
  go_enter Try.func53, Try.ntmps53
  go_wp2_with fail
  refine HC.out.mono ?_
  rintro e w' ⟨v, rfl, ho, hb⟩
  go_wp2
  go_ret
  exact ⟨_, rfl, ho, hb⟩

set_option maxHeartbeats 1000000 in
set_option maxRecDepth 100000 in
theorem RChars_any (S : Nat → Prop) (A : Option Addr) (n c : Nat) (l : List Int) (w : World) (hr : Rd w S 1 A n c (rc l)) (_hn9 : l.length ≤ 1000000000) :
    Calls Try.prog 55 #[.slice A n c] w fun e w' => e = .returned (.bool (l.all isChar)) ∧ w = w' := by
  obtain rfl := hr.rlen
  have hle := hr.le
  have hmx : c ≤ 9223372036854775807 := hr.max
  have HR := Lib.hid hr
  clear hr
  go_enter Try.func55, Try.ntmps55
  go_wp2
  go_loopw [7] (fun i wr => wr = w ∧ ∃ (k : Nat), k ≤ l.length ∧ i = .int .i64 k ∧ Hid ((l.take k).all isChar = true)) (fun i _ => l.length - (intOf i).toNat)
  case atStart => exact ⟨rfl, 0, Nat.zero_le _, rfl, rfl⟩
  case round =>
    obtain ⟨rfl, k, hk, rfl, HA⟩ := hrel
    by_cases hlt : k < l.length
    · obtain ⟨b, u, rfl, hc0⟩ := HR.out.rune hlt
      have HC := fun w => Lib.hid (RChar_any l[k] w)
      cases hq : isChar l[k] with
      | true =>
        have HA2 : Hid ((l.take (k + 1)).all isChar = true) := by rw [Hid, List.take_succ_eq_append_getElem hlt, List.all_append, HA.out]; simp [hq]
        rw [hq] at HC
        generalize l[k] = r at hc0 HC
        clear hq
        go_wp2_with (go_at_call 75; refine (HC _).out.mono ?_; rintro e w' ⟨rfl, rfl⟩)
        go_roundw
        case rel => exact ⟨trivial, k + 1, by omega, by go_num, HA2.out⟩
        case measure => simp [intOf]; omega
      | false =>
        have HE : Hid (l.all isChar = false) := by rw [Hid, List.all_eq_false]; exact ⟨l[k], List.getElem_mem hlt, by simp [hq]⟩
        rw [hq] at HC
        generalize l[k] = r at hc0 HC
        clear hq
        go_wp2_with (go_at_call 75; refine (HC _).out.mono ?_; rintro e w' ⟨rfl, rfl⟩)
        go_ret
        exact ⟨ret_bool HE.out.symm, rfl⟩
    · have HE : Hid (l.all isChar = true) := by have e : l.take k = l := List.take_of_length_le (by omega)
                                                rw [Hid, ← HA.out, e]
      go_wp2
      go_ret
      exact ⟨ret_bool HE.out.symm, rfl⟩

set_option maxHeartbeats 1000000 in
set_option maxRecDepth 100000 in
theorem RHas_any (S : Nat → Prop) (A : Option Addr) (n c : Nat) (l : List Int) (x : Int) (w : World) (hr : Rd w S 1 A n c (rc l)) (_hn9 : l.length ≤ 1000000000) :
    Calls Try.prog 62 #[.slice A n c, .int .i32 x] w fun e w' => e = .returned (.bool (l.contains x)) ∧ w = w' := by
  obtain rfl := hr.rlen
  have hle := hr.le
  have hmx : c ≤ 9223372036854775807 := hr.max
  have HR := Lib.hid hr
  clear hr
  go_enter Try.func62, Try.ntmps62
  go_wp2
  go_loopw [9] (fun i wr => wr = w ∧ ∃ (k : Nat), k ≤ l.length ∧ i = .int .i64 k ∧ Hid ((l.take k).contains x = false)) (fun i _ => l.length - (intOf i).toNat)
  case atStart => exact ⟨rfl, 0, Nat.zero_le _, rfl, rfl⟩
  case round =>
    obtain ⟨rfl, k, hk, rfl, HA⟩ := hrel
    by_cases hlt : k < l.length
    · obtain ⟨b, u, rfl, hc0⟩ := HR.out.rune hlt
      by_cases hq : l[k] = x
      · have HE : Hid (l.contains x = true) := by rw [Hid, List.contains_iff_mem]; exact hq ▸ List.getElem_mem hlt
        have hq1 : (l[k] == x) = true := by simpa using hq
        generalize l[k] = r at hc0 hq1
        clear hq
        go_wp2
        go_ret
        exact ⟨ret_bool HE.out.symm, rfl⟩
      · have HA2 : Hid ((l.take (k + 1)).contains x = false) := by
          have := HA.out
          rw [Hid, List.take_succ_eq_append_getElem hlt]
          simp only [List.contains_eq_mem, decide_eq_false_iff_not, List.mem_append, List.mem_singleton] at this ⊢
          rintro (h | h)
          · exact this h
          · exact hq h.symm
        have hq1 : (l[k] == x) = false := by simpa using hq
        generalize l[k] = r at hc0 hq1
        clear hq
        go_wp2
        go_roundw
        case rel => exact ⟨trivial, k + 1, by omega, by go_num, HA2.out⟩
        case measure => simp [intOf]; omega
    · have HE : Hid (l.contains x = false) := by have e : l.take k = l := List.take_of_length_le (by omega)
                                                 rw [Hid, ← HA.out, e]
      go_wp2
      go_ret
      exact ⟨ret_bool HE.out.symm, rfl⟩

set_option maxHeartbeats 1000000 in
set_option maxRecDepth 100000 in
theorem Quote_any (S : Nat → Prop) (A : Option Addr) (n c : Nat) (l : List Int) (w : World) (hr : Rd w S 1 A n c (rc l)) :
    Calls Try.prog 31 #[.slice A n c] w fun e w' => e = .returned (.int .i32 (quoteF l)) ∧ Below w.heap.size w w' := by
  have HC1 := fun W (hW : Below w.heap.size w W) => Lib.hid (Contains_any S A n c l 34 W (hr.below hW))
  have HC2 := fun W (hW : Below w.heap.size w W) => Lib.hid (Contains_any S A n c l 39 W (hr.below hW))
  have HQ : Hid (quoteF l = if l.contains 34 && !l.contains 39 then 39 else 34) := rfl
  generalize quoteF l = q at HQ ⊢
  generalize l.contains 34 = b1 at HC1 HQ
  generalize l.contains 39 = b2 at HC2 HQ
  clear hr
  go_enter Try.func31, Try.ntmps31
  go_wp2_with (first
    | (go_at_call_of 61 (Value.int .i32 34); refine (HC1 _ (Below.refl _ _)).out.mono ?_; rintro e w1 ⟨rfl, hb1⟩)
    | (go_at_call_of 61 (Value.int .i32 39); refine (HC2 _ hb1).out.mono ?_; rintro e w2 ⟨rfl, hb2⟩))
  all_goals
    go_ret
    have HQ := HQ.out
    first
      | exact ⟨by simp_all, hb1⟩
      | exact ⟨by simp_all, hb1.trans (hb2.mono hb1.size)⟩

set_option maxHeartbeats 1000000 in
set_option maxRecDepth 100000 in
theorem RQuote_any (S : Nat → Prop) (A : Option Addr) (n c : Nat) (l : List Int) (w : World) (hr : Rd w S 1 A n c (rc l)) (hn9 : l.length ≤ 1000000000) :
    Calls Try.prog 32 #[.slice A n c] w fun e w' => e = .returned (.int .i32 (quoteF l)) ∧ w = w' := by
  have HC1 := fun W (hW : w = W) => Lib.hid (RHas_any S A n c l 34 W (hW ▸ hr) hn9)
  have HC2 := fun W (hW : w = W) => Lib.hid (RHas_any S A n c l 39 W (hW ▸ hr) hn9)
  have HQ : Hid (quoteF l = if l.contains 34 && !l.contains 39 then 39 else 34) := rfl
  generalize quoteF l = q at HQ ⊢
  generalize l.contains 34 = b1 at HC1 HQ
  generalize l.contains 39 = b2 at HC2 HQ
  clear hr
  go_enter Try.func32, Try.ntmps32
  go_wp2_with (first
    | (go_at_call_of 62 (Value.int .i32 34); refine (HC1 _ rfl).out.mono ?_; rintro e w1 ⟨rfl, rfl⟩)
    | (go_at_call_of 62 (Value.int .i32 39); refine (HC2 _ rfl).out.mono ?_; rintro e w2 ⟨rfl, rfl⟩))
  all_goals
    go_ret
    have HQ := HQ.out
    exact ⟨by simp_all, rfl⟩

end Go.Proofs.Ytbbplpmaknaadaa
