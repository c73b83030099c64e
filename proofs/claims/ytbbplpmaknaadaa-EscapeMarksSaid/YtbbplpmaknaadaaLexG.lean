/-
  Layers 5, 16: names without a colon; a text without great letters: the program's and the document's.
-/
import Derived.Test.YtbbplpmaknaadaaLexE
import Derived.Test.YtbbplpmaknaadaaName
import Derived.Lib.Bytealg
namespace Go.Proofs.Ytbbplpmaknaadaa
open Go.RowKit Go.Lib

/-! ### plain -/
def lowB (b : UInt8) : UInt8 := if 65 ≤ b.toNat ∧ b.toNat ≤ 90 then UInt8.ofNat (b.toNat + 32) else b
def lowerF (l : List UInt8) : List UInt8 := l.map lowB
def xmlF (l : List UInt8) : Bool := lowerF l == [120, 109, 108]
def plainF (l : List UInt8) : Bool := nameF l && !l.contains 58

theorem indexByte_has (c : UInt8) : ∀ l : List UInt8, (0 ≤ Lib.indexByte l c) ↔ l.contains c = true
  | [] => by simp [Lib.indexByte]
  | b :: l => by
    have ih := indexByte_has c l
    have hg := Lib.indexByte_ge l c
    unfold Lib.indexByte
    by_cases hb : b = c
    · subst hb; simp
    · rw [if_neg (by simpa using hb)]
      simp only [List.contains_cons]
      rw [show (c == b) = false by simpa using fun h => hb h.symm, Bool.false_or, ← ih]
      split
      · rename_i h; have := beq_iff_eq.1 h; omega
      · rename_i h; have h : ¬ Lib.indexByte l c = -1 := by simpa using h
        omega

/-! ### a text has a byte -/
set_option maxHeartbeats 1000000 in
set_option maxRecDepth 100000 in
theorem IndexByteS_any (s : ByteArray) (c : Int) (w : World) :
    Calls Try.prog 130 #[.string s, .int .u8 c] w fun e w' => e = .returned (.int .i64 (Lib.indexByte s.data.toList c.toNat.toUInt8)) ∧ w = w' := by
  go_enter Try.func130, Try.ntmps130
  go_wp2
  rw [run_callFunc_extern Try.func139 (by kernel_rfl) (by kernel_rfl) (by kernel_rfl) (e := Extern.BytealgIndexByte.indexByte) (by kernel_rfl), Lib.run_indexByteString]
  simp only [Result.andThen]
  rw [Oper.upon_value]
  go_wp2
  go_ret
  exact ⟨rfl, rfl⟩

set_option maxHeartbeats 2000000 in
set_option maxRecDepth 100000 in
theorem IndexLite_any (s : ByteArray) (c : UInt8) (w : World) :
    Calls Try.prog 121 #[.string s, .string ⟨#[c]⟩] w fun e w' => ∃ k : Int, e = .returned (.int .i64 k) ∧ (0 ≤ k ↔ s.data.toList.contains c = true) ∧ w = w' := by
  have HI := fun W => Lib.hid (IndexByteS_any s c.toNat W)
  have hc : ((c.toNat : Int)).toNat.toUInt8 = c := by simp
  rw [hc] at HI
  have HX := Lib.hid (indexByte_has c s.data.toList)
  have HS := Lib.hid (show ([c] == s.toList) = true → (0 ≤ (0 : Int) ↔ s.data.toList.contains c = true) from fun h => by
    have e : s.data.toList = [c] := by rw [← ByteArray.toList_eq]; exact (beq_iff_eq.1 h).symm
    rw [e]; simp)
  generalize Lib.indexByte s.data.toList c = q at HI HX
  go_enter Try.func121, Try.ntmps121
  go_wp2_with (go_at_call 130; refine (HI _).out.mono ?_; rintro e w' ⟨rfl, rfl⟩)
  · have h : ([c] == s.toList) = true := by assumption
    go_ret
    exact ⟨0, rfl, HS.out h, rfl⟩
  · go_ret
    exact ⟨q, rfl, HX.out, rfl⟩

set_option maxHeartbeats 1000000 in
set_option maxRecDepth 100000 in
theorem IndexStr_any (s : ByteArray) (c : UInt8) (w : World) :
    Calls Try.prog 115 #[.string s, .string ⟨#[c]⟩] w fun e w' => ∃ k : Int, e = .returned (.int .i64 k) ∧ (0 ≤ k ↔ s.data.toList.contains c = true) ∧ w = w' := by
  have HI := fun W => Lib.hid (IndexLite_any s c W)
  go_enter Try.func115, Try.ntmps115
  go_wp2_with fail
  refine (HI _).out.mono ?_
  rintro e w' ⟨k, rfl, hk, rfl⟩
  have HK := Lib.hid hk
  clear hk
  go_wp2
  go_ret
  exact ⟨k, rfl, HK.out, rfl⟩

set_option maxHeartbeats 1000000 in
set_option maxRecDepth 100000 in
theorem ContainsStr_any (s : ByteArray) (c : UInt8) (w : World) :
    Calls Try.prog 109 #[.string s, .string ⟨#[c]⟩] w fun e w' => e = .returned (.bool (s.data.toList.contains c)) ∧ w = w' := by
  have HI := fun W => Lib.hid (IndexStr_any s c W)
  go_enter Try.func109, Try.ntmps109
  go_wp2_with fail
  refine (HI _).out.mono ?_
  rintro e w' ⟨k, rfl, hk, rfl⟩
  have HK := Lib.hid hk
  clear hk
  go_wp2
  go_ret
  refine ⟨ret_bool ?_, rfl⟩
  rw [Bool.eq_iff_iff, ← HK.out, decide_eq_true_iff]

/-! ### names without a colon -/
set_option maxHeartbeats 1000000 in
set_option maxRecDepth 100000 in
theorem Plain_any (s : ByteArray) (w : World) (hlen : s.size ≤ 300000000) :
    Calls Try.prog 91 #[.string s] w fun e w' => e = .returned (.bool (plainF s.data.toList)) ∧ Below w.heap.size w w' := by
  have HN := Lib.hid (NName_any s w hlen)
  have HC := fun W => Lib.hid (ContainsStr_any s 58 W)
  have HQ : Hid (plainF s.data.toList = (nameF s.data.toList && !s.data.toList.contains 58)) := rfl
  generalize plainF s.data.toList = q at HQ ⊢
  generalize nameF s.data.toList = a at HN HQ
  generalize s.data.toList.contains 58 = b at HC HQ
  cases a with
  | true =>
    go_enter Try.func91, Try.ntmps91
    go_wp2_with fail
    refine HN.out.mono ?_
    rintro e w1 ⟨rfl, hb1⟩
    have HB := Lib.hid hb1
    clear hb1
    go_wp2_with fail
    refine (HC _).out.mono ?_
    rintro e w2 ⟨rfl, rfl⟩
    go_wp2
    go_ret
    exact ⟨ret_bool (by rw [HQ.out]; rfl), HB.out⟩
  | false =>
    go_enter Try.func91, Try.ntmps91
    go_wp2_with fail
    refine HN.out.mono ?_
    rintro e w1 ⟨rfl, hb1⟩
    have HB := Lib.hid hb1
    clear hb1
    go_wp2
    go_ret
    exact ⟨ret_bool (by rw [HQ.out]; rfl), HB.out⟩

theorem contains_upto (l : List UInt8) (c : UInt8) (k : Nat) (h : (l.take k).contains c = false) (hk : k < l.length) (hn : l[k] ≠ c) : (l.take (k + 1)).contains c = false := by
  rw [List.take_succ_eq_append_getElem hk]
  simp only [List.contains_eq_mem, decide_eq_false_iff_not, List.mem_append, List.mem_singleton] at h ⊢
  rintro (h2 | h2)
  · exact h h2
  · exact hn h2.symm

set_option maxHeartbeats 1000000 in
set_option maxRecDepth 100000 in
theorem RColon_any (s : ByteArray) (w : World) (hlen : s.size ≤ 300000000) :
    Calls Try.prog 111 #[.string s] w fun e w' => ∃ k : Int, e = .returned (.int .i64 k) ∧ (0 ≤ k ↔ s.data.toList.contains 58 = true) ∧ w = w' := by
  have hsz : s.data.toList.length = s.size := by simp
  go_enter Try.func111, Try.ntmps111
  go_wp2
  go_loopw [3] (fun i wr => wr = w ∧ ∃ k : Nat, k ≤ s.size ∧ i = .int .i64 k ∧ Hid ((s.data.toList.take k).contains 58 = false)) (fun i _ => s.size - (intOf i).toNat)
  case atStart => exact ⟨rfl, 0, Nat.zero_le _, rfl, rfl⟩
  case round =>
    obtain ⟨rfl, k, hk, rfl, HA⟩ := hrel
    by_cases hlt : k < s.size
    · have hlt2 : k < s.data.toList.length := by omega
      have hlt3 : k < s.data.size := hlt
      have hx : s.data.toList[k] = s.data[k] := by simp
      by_cases h58 : s.data[k] = 58
      · have HE : Hid (s.data.toList.contains 58 = true) := by rw [Hid, List.contains_iff_mem, ← h58, ← hx]; exact List.getElem_mem hlt2
        have hb : (((s[k]).toNat : Int) == 58) = true := by
          show (((s.data[k]).toNat : Int) == 58) = true
          rw [h58]; rfl
        clear h58 hx
        go_wp2
        go_ret
        exact ⟨(k : Int), rfl, ⟨fun _ => HE.out, fun _ => by omega⟩, rfl⟩
      · have HE : Hid ((s.data.toList.take (k + 1)).contains 58 = false) := contains_upto _ _ _ HA.out hlt2 (by rw [hx]; exact h58)
        have hb : (((s[k]).toNat : Int) == 58) = false := by
          show (((s.data[k]).toNat : Int) == 58) = false
          rw [beq_eq_false_iff_ne]
          intro h
          exact h58 (UInt8.toNat_inj.1 (by have : ((58 : UInt8).toNat : Int) = 58 := rfl
                                           omega))
        clear h58 hx
        go_wp2
        go_roundw
        case rel => exact ⟨trivial, k + 1, by omega, by go_num, HE.out⟩
        case measure => simp [intOf]; omega
    · have HE : Hid (s.data.toList.contains 58 = false) := by
        have e : s.data.toList.take k = s.data.toList := List.take_of_length_le (by omega)
        rw [Hid, ← HA.out, e]
      go_wp2
      go_ret
      exact ⟨-1, rfl, ⟨fun h => absurd h (by omega), fun h => by rw [HE.out] at h; cases h⟩, rfl⟩

set_option maxHeartbeats 1000000 in
set_option maxRecDepth 100000 in
theorem RPlain_any (s : ByteArray) (w : World) (hlen : s.size ≤ 300000000) :
    Calls Try.prog 95 #[.string s] w fun e w' => e = .returned (.bool (plainF s.data.toList)) ∧ Below w.heap.size w w' := by
  have HN := Lib.hid (RName_any s w hlen)
  have HC := fun W => Lib.hid (RColon_any s W hlen)
  have HQ : Hid (plainF s.data.toList = (nameF s.data.toList && !s.data.toList.contains 58)) := rfl
  generalize plainF s.data.toList = q at HQ ⊢
  generalize nameF s.data.toList = a at HN HQ
  generalize s.data.toList.contains 58 = b at HC HQ
  cases a with
  | true =>
    go_enter Try.func95, Try.ntmps95
    go_wp2_with fail
    refine HN.out.mono ?_
    rintro e w1 ⟨rfl, hb1⟩
    have HB := Lib.hid hb1
    clear hb1
    go_wp2_with fail
    refine (HC _).out.mono ?_
    rintro e w2 ⟨k, rfl, hk, rfl⟩
    have HK := Lib.hid hk
    clear hk
    go_wp2
    go_ret
    refine ⟨ret_bool ?_, HB.out⟩
    rw [HQ.out, Bool.true_and]
    have hk := HK.out
    cases b with
    | true => have := hk.2 rfl; simp; omega
    | false =>
      have : ¬ 0 ≤ k := fun h => by cases hk.1 h
      simp; omega
  | false =>
    go_enter Try.func95, Try.ntmps95
    go_wp2_with fail
    refine HN.out.mono ?_
    rintro e w1 ⟨rfl, hb1⟩
    have HB := Lib.hid hb1
    clear hb1
    go_wp2
    go_ret
    exact ⟨ret_bool (by rw [HQ.out]; rfl), HB.out⟩

end Go.Proofs.Ytbbplpmaknaadaa
