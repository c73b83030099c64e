/-
  Layer 7 (lex): Starts: the program's and the document's. Places and rows of at most 1000000000.
-/
import Derived.Test.YtbbplpmaknaadaaEscE
namespace Go.Proofs.Ytbbplpmaknaadaa
open Go.RowKit Go.Lib

/-- does a row begin with a text at a place? -/
def startsF (l : List Int) (k : Nat) (bs : List UInt8) : Bool := bs.all (fun b => decide (b.toNat < 128)) && ((l.drop k).take bs.length == bi bs)

theorem starts_upto (l : List Int) (k : Nat) (bs : List UInt8) (hl : k + bs.length ≤ l.length)
    (h : ∀ i (h : i < bs.length), bs[i].toNat < 128 ∧ l[k + i]'(by omega) = bs[i].toNat) : startsF l k bs = true := by
  rw [startsF, Bool.and_eq_true]
  refine ⟨List.all_eq_true.2 fun b hb => ?_, ?_⟩
  · obtain ⟨i, hi, rfl⟩ := List.getElem_of_mem hb
    exact decide_eq_true (h i hi).1
  · rw [beq_iff_eq]
    apply List.ext_getElem
    · simp [bi]; omega
    · intro i h1 h2
      rw [List.getElem_take, List.getElem_drop]
      have hi : i < bs.length := by simpa [bi] using h2
      rw [(h i hi).2]
      simp [bi]
theorem starts_miss (l : List Int) (k : Nat) (bs : List UInt8) (i : Nat) (hi : i < bs.length) (hl : k + i < l.length) (h : ¬ (bs[i].toNat < 128 ∧ l[k + i] = bs[i].toNat)) : startsF l k bs = false := by
  cases hs : startsF l k bs with
  | false => rfl
  | true =>
    exfalso
    rw [startsF, Bool.and_eq_true, beq_iff_eq] at hs
    obtain ⟨h1, h2⟩ := hs
    refine h ⟨of_decide_eq_true (List.all_eq_true.1 h1 _ (List.getElem_mem hi)), ?_⟩
    have h3 := congrArg (fun x => x[i]?) h2
    simp only [List.getElem?_take, List.getElem?_drop, hi, if_true, bi, List.getElem?_map, List.getElem?_eq_getElem hi, List.getElem?_eq_getElem hl, Option.map_some, Option.some.injEq] at h3
    exact h3
theorem starts_short (l : List Int) (k : Nat) (bs : List UInt8) (h : l.length < k + bs.length) (hk : k ≤ l.length) : startsF l k bs = false := by
  cases hs : startsF l k bs with
  | false => rfl
  | true =>
    exfalso
    rw [startsF, Bool.and_eq_true, beq_iff_eq] at hs
    have := congrArg List.length hs.2
    simp [bi] at this
    omega

set_option maxHeartbeats 1000000 in
set_option maxRecDepth 100000 in
theorem Starts_any (S : Nat → Prop) (A : Option Addr) (n c : Nat) (l : List Int) (k : Nat) (s : ByteArray) (w : World) (hr : Rd w S 1 A n c (rc l)) (hk : k ≤ l.length) (hk9 : l.length ≤ 1000000000) (hs9 : s.size ≤ 1000000000) :
    Calls Try.prog 85 #[.slice A n c, .int .i64 k, .string s] w fun e w' => e = .returned (.bool (startsF l k s.data.toList)) ∧ Below w.heap.size w w' := by
  obtain rfl := hr.rlen
  have hle := hr.le
  have hmx : c ≤ 9223372036854775807 := hr.max
  have HR := Lib.hid hr
  clear hr
  have hsz : s.data.toList.length = s.size := by simp
  have hkl : ¬ (k : Int) > (l.length : Int) := by omega
  by_cases hshort : l.length < k + s.size
  · have HE := Lib.hid (starts_short l k s.data.toList (by omega) hk)
    have hsh : (l.length : Int) - (k : Int) < (s.size : Int) := by omega
    go_enter Try.func85, Try.ntmps85
    go_wp2
    go_ret
    exact ⟨ret_bool HE.out.symm, Below.refl _ _⟩
  · have hsh : ¬ (l.length : Int) - (k : Int) < (s.size : Int) := by omega
    go_enter Try.func85, Try.ntmps85
    go_wp2
    go_loopw [27] (fun i wr => ∃ j : Nat, j ≤ s.size ∧ i = .int .i64 j ∧ Hid (Below w.heap.size w wr) ∧ Hid (∀ i, i < j → (h1 : i < s.data.toList.length) → (h2 : k + i < l.length) → s.data.toList[i].toNat < 128 ∧ l[k + i] = s.data.toList[i].toNat)) (fun i _ => s.size - (intOf i).toNat)
    case atStart => exact ⟨0, Nat.zero_le _, rfl, Below.refl _ _, fun i h => absurd h (by omega)⟩
    case round =>
      obtain ⟨j, hj, rfl, HB, HJ⟩ := hrel
      by_cases hlt : j < s.size
      · have hlt2 : j < s.data.toList.length := by omega
        have hlt3 : j < s.data.size := hlt
        have hkj : k + j < l.length := by omega
        have hkj' : (k : Int) + (j : Int) < (l.length : Int) := by omega
        obtain ⟨b, o, rfl, hc0⟩ := (HR.out.below HB.out).rune hkj
        have hx : s.data.toList[j] = s.data[j] := by simp
        have hb := (s.data[j]).toNat_lt
        have hw : wrap32 ((s[j]).toNat : Int) = ((s.data[j]).toNat : Int) := by
          show wrap32 ((s.data[j]).toNat : Int) = _
          rw [← IntWalk.i32_left]; exact IntWalk.i32_in _ (by omega)
        have HM := Lib.hid (starts_miss l k s.data.toList j hlt2 hkj)
        have HX := Lib.hid hx
        rw [hx] at HM
        have HJ2 : (s.data[j]).toNat < 128 → l[k + j] = (s.data[j]).toNat → Hid (∀ i, i < j + 1 → (h1 : i < s.data.toList.length) → (h2 : k + i < l.length) → s.data.toList[i].toNat < 128 ∧ l[k + i] = s.data.toList[i].toNat) := fun e1 e2 i hi h1 h2 => by
          by_cases e : i = j
          · subst e; rw [HX.out]; exact ⟨e1, e2⟩
          · exact HJ.out i (by omega) h1 h2
        clear hx
        generalize l[k + j] = r at hc0 HM HJ2
        by_cases h128 : (s.data[j]).toNat < 128
        · have hge : ¬ ((s.data[j]).toNat : Int) ≥ 128 := by omega
          have hge3 : decide ((128 : Int) ≤ ((s[j]).toNat : Int)) = false := by show decide ((128 : Int) ≤ ((s.data[j]).toNat : Int)) = false; rw [decide_eq_false_iff_not]; omega
          by_cases hrb : r = (s.data[j]).toNat
          · have HJ3 := HJ2 h128 hrb
            have hn : (r != ((s.data[j]).toNat : Int)) = false := by simpa using hrb
            clear HJ2 HM
            go_wp2
            go_quiet (fail)
            go_wp2
            go_roundw
            case rel => exact ⟨j + 1, by omega, by go_num, below_drewN HB.out _, HJ3.out⟩
            case measure => simp [intOf]; omega
          · have HE : Hid (startsF l k s.data.toList = false) := HM.out fun h => hrb h.2
            have hn : (r != ((s.data[j]).toNat : Int)) = true := by simpa using hrb
            clear HJ2 HM
            go_wp2
            go_quiet (fail)
            go_wp2
            go_ret
            exact ⟨ret_bool HE.out.symm, below_drewN HB.out _⟩
        · have hge : ((s.data[j]).toNat : Int) ≥ 128 := by omega
          have hge3 : decide ((128 : Int) ≤ ((s[j]).toNat : Int)) = true := by show decide ((128 : Int) ≤ ((s.data[j]).toNat : Int)) = true; rw [decide_eq_true_iff]; omega
          have HE : Hid (startsF l k s.data.toList = false) := HM.out fun h => h128 h.1
          clear HJ2 HM
          go_wp2
          go_quiet (fail)
          go_wp2
          go_ret
          exact ⟨ret_bool HE.out.symm, below_drewN HB.out _⟩
      · have HE : Hid (startsF l k s.data.toList = true) := starts_upto l k _ (by omega) fun i h => HJ.out i (by omega) h (by omega)
        go_wp2
        go_ret
        exact ⟨ret_bool HE.out.symm, HB.out⟩

end Go.Proofs.Ytbbplpmaknaadaa
