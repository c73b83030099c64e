/- Parts of the proof; conditions as told. -/
import Derived.Test.YtlnojpllgclgfaaGreatQC01
import Derived.Lib.AppendStr
import Derived.Deep.MidRow
import Derived.Lib.Bytealg
set_option linter.unusedSimpArgs false
set_option linter.unusedVariables false
namespace Go.Proofs.YtlnojpllgclgfaaGreat
open Go.RowKit Go.Lib
def startsF (l : List Int) (k : Nat) (bs : List UInt8) : Bool := bs.all (fun b => decide (b.toNat < 128)) && ((l.drop k).take bs.length == bi bs)
theorem starts_upto (l : List Int) (k : Nat) (bs : List UInt8) (hl : k + bs.length ≤ l.length)
    (h : ∀ i (h : i < bs.length), bs[i].toNat < 128 ∧ l[k + i]'(by omega) = bs[i].toNat) : startsF l k bs = true := by
  rw [startsF, Bool.and_eq_true]
  refine ⟨List.all_eq_true.2 fun b hb => ?_, ?_⟩
  · obtain ⟨i, hi, rfl⟩ := List.getElem_of_mem hb
    exact decide_eq_true (h i hi).1
  · rw [beq_iff_eq]
    apply List.ext_getElem
    · simp [bi]; omega
    · intro i h1 h2
      rw [List.getElem_take, List.getElem_drop]
      have hi : i < bs.length := by simpa [bi] using h2
      rw [(h i hi).2]
      simp [bi]
theorem starts_miss (l : List Int) (k : Nat) (bs : List UInt8) (i : Nat) (hi : i < bs.length) (hl : k + i < l.length) (h : ¬ (bs[i].toNat < 128 ∧ l[k + i] = bs[i].toNat)) : startsF l k bs = false := by
  cases hs : startsF l k bs with
  | false => rfl
  | true =>
    exfalso
    rw [startsF, Bool.and_eq_true, beq_iff_eq] at hs
    obtain ⟨h1, h2⟩ := hs
    refine h ⟨of_decide_eq_true (List.all_eq_true.1 h1 _ (List.getElem_mem hi)), ?_⟩
    have h3 := congrArg (fun x => x[i]?) h2
    simp only [List.getElem?_take, List.getElem?_drop, hi, if_true, bi, List.getElem?_map, List.getElem?_eq_getElem hi, List.getElem?_eq_getElem hl, Option.map_some, Option.some.injEq] at h3
    exact h3
theorem starts_short (l : List Int) (k : Nat) (bs : List UInt8) (h : l.length < k + bs.length) (hk : k ≤ l.length) : startsF l k bs = false := by
  cases hs : startsF l k bs with
  | false => rfl
  | true =>
    exfalso
    rw [startsF, Bool.and_eq_true, beq_iff_eq] at hs
    have := congrArg List.length hs.2
    simp [bi] at this
    omega
set_option maxHeartbeats 1000000 in
set_option maxRecDepth 100000 in
theorem Starts_any (S : Nat → Prop) (A : Option Addr) (n c : Nat) (l : List Int) (k : Nat) (s : ByteArray) (w : World) (hr : Rd w S 1 A n c (rc l)) (hk : k ≤ l.length) (hk9 : l.length ≤ 1000000000) (hs9 : s.size ≤ 1000000000) :
    Calls Tryz.prog 29 #[.slice A n c, .int .i64 k, .string s] w fun e w' => e = .returned (.bool (startsF l k s.data.toList)) ∧ Below w.heap.size w w' := by
  obtain rfl := hr.rlen
  have hle := hr.le
  have hmx : c ≤ 9223372036854775807 := hr.max
  have HR := Lib.hid hr
  clear hr
  have hsz : s.data.toList.length = s.size := by simp
  have hkl : ¬ (k : Int) > (l.length : Int) := by omega
  by_cases hshort : l.length < k + s.size
  · have HE := Lib.hid (starts_short l k s.data.toList (by omega) hk)
    have hsh : (l.length : Int) - (k : Int) < (s.size : Int) := by omega
    go_enter Tryz.func29, Tryz.ntmps29
    go_wp2
    go_ret
    exact ⟨ret_bool HE.out.symm, Below.refl _ _⟩
  · have hsh : ¬ (l.length : Int) - (k : Int) < (s.size : Int) := by omega
    go_enter Tryz.func29, Tryz.ntmps29
    go_wp2
    go_loopw [27] (fun i wr => ∃ j : Nat, j ≤ s.size ∧ i = .int .i64 j ∧ Hid (Below w.heap.size w wr) ∧ Hid (∀ i, i < j → (h1 : i < s.data.toList.length) → (h2 : k + i < l.length) → s.data.toList[i].toNat < 128 ∧ l[k + i] = s.data.toList[i].toNat)) (fun i _ => s.size - (intOf i).toNat)
    case atStart => exact ⟨0, Nat.zero_le _, rfl, Below.refl _ _, fun i h => absurd h (by omega)⟩
    case round =>
      obtain ⟨j, hj, rfl, HB, HJ⟩ := hrel
      by_cases hlt : j < s.size
      · have hlt2 : j < s.data.toList.length := by omega
        have hlt3 : j < s.data.size := hlt
        have hkj : k + j < l.length := by omega
        have hkj' : (k : Int) + (j : Int) < (l.length : Int) := by omega
        obtain ⟨b, o, rfl, hc0⟩ := (HR.out.below HB.out).rune hkj
        have hx : s.data.toList[j] = s.data[j] := by simp
        have hb := (s.data[j]).toNat_lt
        have hw : wrap32 ((s[j]).toNat : Int) = ((s.data[j]).toNat : Int) := by
          show wrap32 ((s.data[j]).toNat : Int) = _
          rw [← IntWalk.i32_left]; exact IntWalk.i32_in _ (by omega)
        have HM := Lib.hid (starts_miss l k s.data.toList j hlt2 hkj)
        have HX := Lib.hid hx
        rw [hx] at HM
        have HJ2 : (s.data[j]).toNat < 128 → l[k + j] = (s.data[j]).toNat → Hid (∀ i, i < j + 1 → (h1 : i < s.data.toList.length) → (h2 : k + i < l.length) → s.data.toList[i].toNat < 128 ∧ l[k + i] = s.data.toList[i].toNat) := fun e1 e2 i hi h1 h2 => by
          by_cases e : i = j
          · subst e; rw [HX.out]; exact ⟨e1, e2⟩
          · exact HJ.out i (by omega) h1 h2
        clear hx
        generalize l[k + j] = r at hc0 HM HJ2
        by_cases h128 : (s.data[j]).toNat < 128
        · have hge : ¬ ((s.data[j]).toNat : Int) ≥ 128 := by omega
          have hge3 : decide ((128 : Int) ≤ ((s[j]).toNat : Int)) = false := by show decide ((128 : Int) ≤ ((s.data[j]).toNat : Int)) = false; rw [decide_eq_false_iff_not]; omega
          by_cases hrb : r = (s.data[j]).toNat
          · have HJ3 := HJ2 h128 hrb
            have hn : (r != ((s.data[j]).toNat : Int)) = false := by simpa using hrb
            clear HJ2 HM
            go_wp2
            go_quiet (fail)
            go_wp2
            go_roundw
            case rel => exact ⟨j + 1, by omega, by go_num, below_drewN HB.out _, HJ3.out⟩
            case measure => simp [intOf]; omega
          · have HE : Hid (startsF l k s.data.toList = false) := HM.out fun h => hrb h.2
            have hn : (r != ((s.data[j]).toNat : Int)) = true := by simpa using hrb
            clear HJ2 HM
            go_wp2
            go_quiet (fail)
            go_wp2
            go_ret
            exact ⟨ret_bool HE.out.symm, below_drewN HB.out _⟩
        · have hge : ((s.data[j]).toNat : Int) ≥ 128 := by omega
          have hge3 : decide ((128 : Int) ≤ ((s[j]).toNat : Int)) = true := by show decide ((128 : Int) ≤ ((s.data[j]).toNat : Int)) = true; rw [decide_eq_true_iff]; omega
          have HE : Hid (startsF l k s.data.toList = false) := HM.out fun h => h128 h.1
          clear HJ2 HM
          go_wp2
          go_quiet (fail)
          go_wp2
          go_ret
          exact ⟨ret_bool HE.out.symm, below_drewN HB.out _⟩
      · have HE : Hid (startsF l k s.data.toList = true) := starts_upto l k _ (by omega) fun i h => HJ.out i (by omega) h (by omega)
        go_wp2
        go_ret
        exact ⟨ret_bool HE.out.symm, HB.out⟩
end Go.Proofs.YtlnojpllgclgfaaGreat
namespace Go.Proofs.YtlnojpllgclgfaaGreat
open Go.RowKit Go.Lib
def findF (l : List Int) (k t : Nat) (bs : List UInt8) : Option Nat := (List.range' k (t + 1 - bs.length - k)).find? (fun i => startsF l i bs)
def I32 (l : List Int) : Prop := ∀ x ∈ l, -2147483648 ≤ x ∧ x ≤ 2147483647
end Go.Proofs.YtlnojpllgclgfaaGreat
namespace Go.Proofs.YtlnojpllgclgfaaGreat
open Go.RowKit Go.Lib
def bytesF (l : List Int) : List UInt8 := l.flatMap runeF
theorem enc8_rune (r : Int) (h : 0 < widthF r) : enc8 r = encodeRune r := by
  unfold widthF at h
  split at h
  · omega
  · rename_i h1
    have hv : Utf8.valid r = true := by simp [Utf8.valid]; omega
    by_cases h2 : r < 128
    · rw [enc8_small r (by omega) h2, encodeRune, encodeRuneZ_one (by omega) (by omega)]; rfl
    · unfold enc8 Utf8.encode
      simp only [hv, if_true]
      rw [if_neg (by omega)]
      by_cases h3 : r < 2048
      · rw [if_pos (by omega), encodeRune, encodeRuneZ_two (by omega) (by omega)]
        simp only [List.map_cons, List.map_nil]
        rw [show ((192 + r / 64).toNat) = 192 + r.toNat / 64 by omega, show ((128 + r % 64).toNat) = 128 + r.toNat % 64 by omega]
      · rw [if_neg (by omega)]
        by_cases h4 : r < 65536
        · rw [if_pos (by omega), encodeRune, encodeRuneZ_three (by omega)]
          simp only [List.map_cons, List.map_nil]
          rw [show ((224 + r / 4096).toNat) = 224 + r.toNat / 4096 by omega, show ((128 + r / 64 % 64).toNat) = 128 + r.toNat / 64 % 64 by omega, show ((128 + r % 64).toNat) = 128 + r.toNat % 64 by omega]
        · rw [if_neg (by omega), encodeRune, encodeRuneZ_four (by omega) (by omega)]
          simp only [List.map_cons, List.map_nil]
          rw [show ((240 + r / 262144).toNat) = 240 + r.toNat / 262144 by omega, show ((128 + r / 4096 % 64).toNat) = 128 + r.toNat / 4096 % 64 by omega, show ((128 + r / 64 % 64).toNat) = 128 + r.toNat / 64 % 64 by omega, show ((128 + r % 64).toNat) = 128 + r.toNat % 64 by omega]
theorem runeF_len (r : Int) : (runeF r).length ≤ 4 := by
  unfold runeF
  split
  · simp
  · rw [enc_width r (by omega)]; unfold widthF; repeat' split
    all_goals omega
theorem runeF_enc (r : Int) (h : 0 < widthF r) : (Utf8.encode r).data.toList = runeF r := by rw [runeF, if_neg (by omega)]; exact enc8_rune r h
theorem bytesF_len (l : List Int) : (bytesF l).length ≤ 4 * l.length := by
  induction l with
  | nil => simp [bytesF]
  | cons r t ih =>
    have := runeF_len r
    simp only [bytesF, List.flatMap_cons, List.length_append, List.length_cons] at ih ⊢
    omega
theorem bytesF_step (l : List Int) (k : Nat) (h : k < l.length) : bytesF (l.take (k + 1)) = bytesF (l.take k) ++ runeF l[k] := by
  rw [bytesF, bytesF, List.take_succ_eq_append_getElem h, List.flatMap_append]; simp
theorem Tryz.info5 : (Tryz.prog.info? 5).map (fun i => (i.zero, i.size, i.bytes)) = some (some (.int .u8 0), 1, 1) := by kernel_rfl
theorem append_str (w : World) {ops : Array Oper} {rest : List Oper} {o : Oper} {a : Act} {Q : Exit → Act → World → Prop} (hgd : o.guard = none) (s x : Operand)
    (ho : o.op = .call { callee := .builtin .append, args := #[s, x], argTypes := #[49, 9] })
    (base : Nat) (v : Value) (n : Nat) (xs : List UInt8) (hs : a.eval s = v) (hown : w.ownsRow base 5 1 v n (bc xs))
    (str : ByteArray) (hx : a.eval x = .string str) (hlen : n + str.size ≤ 1000000000) (hbase : base ≤ w.heap.size)
    (h : ∀ A' c' w', w'.ownsRow base 5 1 (.slice A' (n + str.size) c') (n + str.size) (bc (xs ++ str.data.toList)) → w.grownBy w' v.ownBlock →
      c' ≤ 9223372036854775807 → wpList Tryz.prog ops Q rest (a.put o.dst (.slice A' (n + str.size) c')) w') :
    wpList Tryz.prog ops Q (o :: rest) a w := by
  obtain ⟨i0, hi, hz0, hz1, hz2⟩ := info_parts Tryz.info5
  refine wpList_append_own_string w hgd s x 49 9 ho base 5 i0 Tryz.underlying49 Tryz.underlying9 hi hz0 hz1 hz2 v n (bc xs) hs hown str hx (by simp only [maxLen]; omega) (by omega) hbase ?_
  intro v' w' h1 h2 h3
  obtain ⟨A', c', rfl, hr'⟩ := own_form h1
  exact h A' c' w' (by simpa [bc, strCells] using h1) h2 hr'.max
theorem bc_own_len {w : World} {base : Nat} {e : TypeId} {v : Value} {n : Nat} {xs : List UInt8} (h : w.ownsRow base e 1 v n (bc xs)) : n = xs.length := by have := h.1; simpa using this.symm
set_option maxHeartbeats 1000000 in
set_option maxRecDepth 100000 in
theorem Bytes_any (S : Nat → Prop) (A : Option Addr) (n c : Nat) (l : List Int) (w : World) (hr : Rd w S 1 A n c (rc l)) (hn9 : l.length ≤ 100000000) :
    Calls Tryz.prog 33 #[.slice A n c] w fun e w' => ∃ v, e = .returned v ∧ (∃ n', w'.ownsRow w.heap.size 5 1 v n' (bc (bytesF l))) ∧ Below w.heap.size w w' := by
  obtain rfl := hr.rlen
  have hle := hr.le
  have hmx : c ≤ 9223372036854775807 := hr.max
  have HR := Lib.hid hr
  clear hr
  go_enter Tryz.func33, Tryz.ntmps33
  go_wp2
  go_loopw [3, 8] (fun v i wr => ∃ (k : Nat), k ≤ l.length ∧ i = .int .i64 k ∧ Hid (∃ n', wr.ownsRow w.heap.size 5 1 v n' (bc (bytesF (l.take k)))) ∧ Hid (Below w.heap.size w wr))
    (fun _ i _ => l.length - (intOf i).toNat)
  case atStart => exact ⟨0, Nat.zero_le _, rfl, ⟨0, World.ownsRow_nil w w.heap.size 5 1⟩, Below.refl _ _⟩
  case round =>
    obtain ⟨k, hk, rfl, HO, HB⟩ := hrel
    obtain ⟨no, HO⟩ := HO.out
    have hno := bc_own_len HO
    have hno2 : no ≤ 400000000 := by have := bytesF_len (l.take k); simp at this; omega
    clear hno
    obtain ⟨Ao, co, rfl, hro⟩ := own_form HO
    have hco2 : co ≤ 9223372036854775807 := hro.max
    have HO := Lib.hid HO
    clear hro
    by_cases hlt : k < l.length
    · obtain ⟨b, u, rfl, hc0⟩ := (HR.out.below HB.out).rune hlt
      have HST := Lib.hid (bytesF_step l k hlt)
      have HW := fun w => Lib.hid (Width_any l[k] w)
      have HE := Lib.hid (runeF_enc l[k])
      have hes := runeF_len l[k]
      have HZ := Lib.hid (fun (h : widthF l[k] = 0) => (by rw [runeF, if_pos h] : runeF l[k] = []))
      generalize l[k] = r at hc0 HST HW HE hes HZ
      by_cases h0 : widthF r = 0
      · have hw0 : ¬ ((widthF r : Nat) : Int) > 0 := by omega
        have HZ2 := Lib.hid (HZ.out h0)
        clear HZ HE h0
        generalize widthF r = wd at HW hw0
        go_wp2_with (go_at_call 62; refine (HW _).out.mono ?_; rintro e w' ⟨rfl, rfl⟩)
        go_roundw
        case rel => exact ⟨k + 1, by omega, by go_num, ⟨_, by rw [HST.out, HZ2.out, List.append_nil]; exact HO.out⟩, HB.out⟩
        case measure => simp [intOf]; omega
      · have hw0 : ((widthF r : Nat) : Int) > 0 := by omega
        have HE2 := Lib.hid (HE.out (by omega))
        have hsz : (Utf8.encode r).size ≤ 4 := by
          have e : (Utf8.encode r).data.toList.length = (Utf8.encode r).size := by simp
          rw [← e, HE2.out]; exact hes
        clear HZ HE h0
        generalize widthF r = wd at HW hw0
        go_wp2_with (first
          | (go_at_call 62; refine (HW _).out.mono ?_; rintro e w' ⟨rfl, rfl⟩)
          | (at_builtin
             refine append_str _ rfl (.tmp 15) (.tmp 17) rfl w.heap.size _ _ _ rfl HO.out (Utf8.encode r) rfl (by omega) HB.out.size ?_
             intro A4 c4 w4 hown4 hg4 _
             have hb4 := below_own HB.out HB.out.size HO.out hg4
             rw [HE2.out] at hown4
             have HB4 := Lib.hid hb4
             have HO4 := Lib.hid hown4
             clear hown4 hg4 hb4))
        go_roundw
        case rel => exact ⟨k + 1, by omega, by go_num, ⟨_, by rw [HST.out]; exact HO4.out⟩, HB4.out⟩
        case measure => simp [intOf]; omega
    · have e : l.take k = l := List.take_of_length_le (by omega)
      rw [e] at HO
      go_wp2
      go_ret
      exact ⟨_, rfl, ⟨_, HO.out⟩, HB.out⟩
end Go.Proofs.YtlnojpllgclgfaaGreat
namespace Go.Proofs.YtlnojpllgclgfaaGreat
open Go.RowKit Go.Lib
end Go.Proofs.YtlnojpllgclgfaaGreat
namespace Go.Proofs.YtlnojpllgclgfaaGreat
open Go.RowKit Go.Lib
def isDig (r : Int) : Bool := (digitF r).2
def isHex (r : Int) : Bool := (hexF r).2
def endedF (l : List Int) (p n : Nat) : Bool := decide (0 < n) && (l[p + n]? == some 59)
def digN (l : List Int) (k : Nat) : Nat := ((l.drop (k + 2)).takeWhile isDig).length
def hexN (l : List Int) (k : Nat) : Nat := ((l.drop (k + 3)).takeWhile isHex).length
def refF (l : List Int) (k : Nat) : Nat × Nat × Bool :=
  if startsF l k [38, 35, 120] && endedF l (k + 3) (hexN l k) then (3, k + 4 + hexN l k, true)
  else if startsF l k [38, 35] && endedF l (k + 2) (digN l k) then (3, k + 3 + digN l k, true)
  else if endedF l (k + 1) (leadF l (k + 1)) then (2, k + 2 + leadF l (k + 1), true)
  else (11, k + 1, false)
def notAmp (r : Int) : Bool := r != 38
theorem refF_pos (l : List Int) (k : Nat) : k < (refF l k).2.1 := by
  unfold refF
  repeat' split
  all_goals (simp only; omega)
theorem ended_le (l : List Int) (p n : Nat) (h : endedF l p n = true) : p + n < l.length := by
  rw [endedF, Bool.and_eq_true, beq_iff_eq] at h
  exact (List.getElem?_eq_some_iff.1 h.2).1
theorem refF_le (l : List Int) (k : Nat) (hk : k < l.length) : (refF l k).2.1 ≤ l.length := by
  unfold refF
  split
  · rename_i h
    have := ended_le _ _ _ (Bool.and_eq_true_iff.1 h).2
    simp only; omega
  · split
    · rename_i h
      have := ended_le _ _ _ (Bool.and_eq_true_iff.1 h).2
      simp only; omega
    · split
      · rename_i h
        have := ended_le _ _ _ h
        simp only; omega
      · simp only; omega
end Go.Proofs.YtlnojpllgclgfaaGreat
namespace Go.Proofs.YtlnojpllgclgfaaGreat
open Go.RowKit Go.Lib
set_option maxRecDepth 100000 in
theorem LDigit_any (r : Int) (w : World) : Calls Tryz.prog 139 #[.int .i32 r] w fun e w' => e = .returned (.bool (isDig r)) ∧ w = w' := by
  have HD := Lib.hid (Digit_any r w)
  generalize (digitF r).1 = d1 at HD
  have HQ : Hid (isDig r = (digitF r).2) := rfl
  generalize (digitF r).2 = d2 at HD HQ
  go_enter Tryz.func139, Tryz.ntmps139
  go_wp2_with fail
  refine HD.out.mono ?_
  rintro e w' ⟨rfl, rfl⟩
  go_wp2
  go_ret
  exact ⟨ret_bool HQ.out.symm, rfl⟩
set_option maxRecDepth 100000 in
theorem LHex_any (r : Int) (w : World) : Calls Tryz.prog 140 #[.int .i32 r] w fun e w' => e = .returned (.bool (isHex r)) ∧ w = w' := by
  have HD := Lib.hid (Hex_any r w)
  generalize (hexF r).1 = d1 at HD
  have HQ : Hid (isHex r = (hexF r).2) := rfl
  generalize (hexF r).2 = d2 at HD HQ
  go_enter Tryz.func140, Tryz.ntmps140
  go_wp2_with fail
  refine HD.out.mono ?_
  rintro e w' ⟨rfl, rfl⟩
  go_wp2
  go_ret
  exact ⟨ret_bool HQ.out.symm, rfl⟩
theorem LDigit_ok (w : World) : PredOk Tryz.prog 139 #[] isDig w := fun W r _ => (LDigit_any r W).mono fun _ _ ⟨h1, h2⟩ => ⟨h1, h2 ▸ Below.refl _ _⟩
theorem LHex_ok (w : World) : PredOk Tryz.prog 140 #[] isHex w := fun W r _ => (LHex_any r W).mono fun _ _ ⟨h1, h2⟩ => ⟨h1, h2 ▸ Below.refl _ _⟩
end Go.Proofs.YtlnojpllgclgfaaGreat
namespace Go.Proofs.YtlnojpllgclgfaaGreat
open Go.RowKit Go.Lib
def isQuo (r : Int) : Bool := r == 34 || r == 39
def quoF (l : List Int) (q : Int) (k : Nat) : Nat × Bool := if h : k < l.length then (if l[k] = q then (k + 1, true) else quoF l q (k + 1)) else (l.length, false)
termination_by l.length - k
theorem quoF_hit (l : List Int) (q : Int) (k : Nat) (h : k < l.length) (hq : l[k] = q) : quoF l q k = (k + 1, true) := by rw [quoF, dif_pos h, if_pos hq]
theorem quoF_miss (l : List Int) (q : Int) (k : Nat) (h : k < l.length) (hq : l[k] ≠ q) : quoF l q k = quoF l q (k + 1) := by rw [quoF, dif_pos h, if_neg hq]
theorem quoF_end (l : List Int) (q : Int) (k : Nat) (h : ¬ k < l.length) : quoF l q k = (l.length, false) := by rw [quoF, dif_neg h]
theorem quoF_range (l : List Int) (q : Int) : ∀ (n k : Nat), l.length - k ≤ n → k ≤ l.length → k ≤ (quoF l q k).1 ∧ (quoF l q k).1 ≤ l.length ∧ (k < l.length → k < (quoF l q k).1 ∨ (quoF l q k).1 = l.length) := by
  intro n
  induction n with
  | zero =>
    intro k h hk
    rw [quoF_end l q k (by omega)]
    simp only; omega
  | succ n ih =>
    intro k h hk
    by_cases hlt : k < l.length
    · by_cases hq : l[k] = q
      · rw [quoF_hit l q k hlt hq]; simp only; omega
      · rw [quoF_miss l q k hlt hq]
        have := ih (k + 1) (by omega) (by omega)
        omega
    · rw [quoF_end l q k hlt]; simp only; omega
def quotedF (l : List Int) (k : Nat) : Nat × Bool := quoF l (l.getD k 0) (k + 1)
theorem quotedF_gt (l : List Int) (k : Nat) (h : k < l.length) : k < (quotedF l k).1 ∧ (quotedF l k).1 ≤ l.length := by
  have := quoF_range l (l.getD k 0) l.length (k + 1) (by omega) (by omega)
  unfold quotedF; omega
def angleF (l : List Int) (stops : Bool) (k : Nat) : Nat × Bool :=
  if h : k < l.length then
    (if isQuo l[k] then angleF l stops (quotedF l k).1 else if l[k] = 62 then (k, true) else if l[k] = 60 ∧ stops = true then (k, false) else angleF l stops (k + 1))
  else (l.length, false)
termination_by l.length - k
decreasing_by
  · have := quotedF_gt l k (by assumption); omega
  · omega
theorem angleF_end (l : List Int) (s : Bool) (k : Nat) (h : ¬ k < l.length) : angleF l s k = (l.length, false) := by rw [angleF, dif_neg h]
theorem angleF_quo (l : List Int) (s : Bool) (k : Nat) (h : k < l.length) (hq : isQuo l[k] = true) : angleF l s k = angleF l s (quotedF l k).1 := by
  conv => lhs; rw [angleF]
  rw [dif_pos h, if_pos hq]
theorem angleF_gt (l : List Int) (s : Bool) (k : Nat) (h : k < l.length) (hq : l[k] = 62) : angleF l s k = (k, true) := by
  rw [angleF, dif_pos h, if_neg (by rw [hq]; decide), if_pos hq]
theorem angleF_lt (l : List Int) (k : Nat) (h : k < l.length) (hq : l[k] = 60) : angleF l true k = (k, false) := by
  rw [angleF, dif_pos h, if_neg (by rw [hq]; decide), if_neg (by rw [hq]; decide), if_pos ⟨hq, rfl⟩]
theorem angleF_next (l : List Int) (s : Bool) (k : Nat) (h : k < l.length) (h1 : isQuo l[k] = false) (h2 : l[k] ≠ 62) (h3 : ¬ (l[k] = 60 ∧ s = true)) : angleF l s k = angleF l s (k + 1) := by
  conv => lhs; rw [angleF]
  rw [dif_pos h, if_neg (by simp [h1]), if_neg h2, if_neg h3]
theorem angleF_range (l : List Int) (s : Bool) : ∀ (n k : Nat), l.length - k ≤ n → k ≤ l.length → k ≤ (angleF l s k).1 ∧ (angleF l s k).1 ≤ l.length ∧ ((angleF l s k).2 = true → (angleF l s k).1 < l.length) := by
  intro n
  induction n with
  | zero =>
    intro k h hk
    rw [angleF_end l s k (by omega)]
    simp; omega
  | succ n ih =>
    intro k h hk
    by_cases hlt : k < l.length
    · cases hq : isQuo l[k] with
      | true =>
        have := quotedF_gt l k hlt
        have := ih (quotedF l k).1 (by omega) (by omega)
        rw [angleF_quo l s k hlt hq]; exact ⟨by omega, by omega, this.2.2⟩
      | false =>
        by_cases h2 : l[k] = 62
        · rw [angleF_gt l s k hlt h2]; simp; omega
        · by_cases h3 : l[k] = 60 ∧ s = true
          · obtain ⟨h3, rfl⟩ := h3
            rw [angleF_lt l k hlt h3]; simp; omega
          · have := ih (k + 1) (by omega) (by omega)
            rw [angleF_next l s k hlt hq h2 h3]; exact ⟨by omega, by omega, this.2.2⟩
    · rw [angleF_end l s k hlt]
      simp; omega
end Go.Proofs.YtlnojpllgclgfaaGreat
namespace Go.Proofs.YtlnojpllgclgfaaGreat
open Go.RowKit Go.Lib
def upToF (l : List Int) (kd k skip : Nat) (bs : List UInt8) : Nat × Nat × Bool := match findF l (min (k + skip) l.length) l.length bs with
  | none => (kd, l.length, false)
  | some j => (kd, j + bs.length, true)
def endGo (l : List Int) (k : Nat) : Nat × Bool := if h : k < l.length then (if l[k] = 62 then (k + 1, true) else if l[k] = 60 then (k, false) else endGo l (k + 1)) else (l.length, false)
termination_by l.length - k
def endTF (l : List Int) (k : Nat) : Nat × Nat × Bool := (10, (endGo l (k + 2)).1, (endGo l (k + 2)).2)
def startTF (l : List Int) (k : Nat) : Nat × Nat × Bool :=
  if (angleF l true (k + 1)).2 = false then (8, (angleF l true (k + 1)).1, false)
  else if l[(angleF l true (k + 1)).1 - 1]? = some 47 then (9, (angleF l true (k + 1)).1 + 1, true) else (8, (angleF l true (k + 1)).1 + 1, true)
theorem endGo_gt (l : List Int) (k : Nat) (h : k < l.length) (hq : l[k] = 62) : endGo l k = (k + 1, true) := by rw [endGo, dif_pos h, if_pos hq]
theorem endGo_lt (l : List Int) (k : Nat) (h : k < l.length) (hq : l[k] = 60) : endGo l k = (k, false) := by rw [endGo, dif_pos h, if_neg (by rw [hq]; decide), if_pos hq]
theorem endGo_next (l : List Int) (k : Nat) (h : k < l.length) (h1 : l[k] ≠ 62) (h2 : l[k] ≠ 60) : endGo l k = endGo l (k + 1) := by rw [endGo, dif_pos h, if_neg h1, if_neg h2]
theorem endGo_end (l : List Int) (k : Nat) (h : ¬ k < l.length) : endGo l k = (l.length, false) := by rw [endGo, dif_neg h]
end Go.Proofs.YtlnojpllgclgfaaGreat
namespace Go.Proofs.YtlnojpllgclgfaaGreat
open Go.RowKit Go.Lib
theorem findF_le (l : List Int) (k t : Nat) (bs : List UInt8) (j : Nat) (h : findF l k t bs = some j) : k ≤ j ∧ j < t + 1 - bs.length := by
  rw [findF, List.find?_range'_eq_some] at h
  have := List.mem_range'_1.1 h.2.1
  omega
theorem upToF_range (l : List Int) (kd k skip : Nat) (bs : List UInt8) (hk : k < l.length) (hb : 0 < bs.length) : k < (upToF l kd k skip bs).2.1 ∧ (upToF l kd k skip bs).2.1 ≤ l.length := by
  unfold upToF
  cases h : findF l (min (k + skip) l.length) l.length bs with
  | none => simp only; omega
  | some j =>
    have := findF_le l _ _ bs j h
    simp only; omega
def declF (l : List Int) (k : Nat) : Nat × Bool :=
  if startsF l k [60, 33, 45, 45] = true then ((upToF l 4 k 4 [45, 45, 62]).2.1, (upToF l 4 k 4 [45, 45, 62]).2.2)
  else if startsF l k [60, 63] = true then ((upToF l 5 k 2 [63, 62]).2.1, (upToF l 5 k 2 [63, 62]).2.2)
  else if l.getD k 0 = 60 then (min ((angleF l false k).1 + 1) l.length, (angleF l false k).2)
  else (k + 1, true)
theorem declF_range (l : List Int) (k : Nat) (hk : k < l.length) : k < (declF l k).1 ∧ (declF l k).1 ≤ l.length := by
  unfold declF
  split
  · exact upToF_range l 4 k 4 _ hk (by decide)
  · split
    · exact upToF_range l 5 k 2 _ hk (by decide)
    · split
      · have := angleF_range l false l.length k (by omega) (by omega)
        simp only; omega
      · simp only; omega
def subGo (l : List Int) (k : Nat) (ok : Bool) : Nat × Bool :=
  if h : k < l.length ∧ ok = true then (if l[k]'h.1 = 93 then (k + 1, true) else subGo l (declF l k).1 (declF l k).2) else (l.length, false)
termination_by l.length - k
decreasing_by
  have := declF_range l k h.1; omega
theorem subGo_hit (l : List Int) (k : Nat) (h : k < l.length) (hq : l[k] = 93) : subGo l k true = (k + 1, true) := by rw [subGo, dif_pos ⟨h, rfl⟩, if_pos hq]
theorem subGo_next (l : List Int) (k : Nat) (h : k < l.length) (hq : l[k] ≠ 93) : subGo l k true = subGo l (declF l k).1 (declF l k).2 := by
  conv => lhs; rw [subGo]
  rw [dif_pos ⟨h, rfl⟩, if_neg hq]
theorem subGo_end (l : List Int) (k : Nat) (ok : Bool) (h : ¬ (k < l.length ∧ ok = true)) : subGo l k ok = (l.length, false) := by rw [subGo, dif_neg h]
theorem subGo_range (l : List Int) : ∀ (n k : Nat) (ok : Bool), l.length - k ≤ n → k ≤ l.length → (k < (subGo l k ok).1 ∨ (subGo l k ok).1 = l.length) ∧ (subGo l k ok).1 ≤ l.length := by
  intro n
  induction n with
  | zero =>
    intro k ok h hk
    rw [subGo_end l k ok (by omega)]
    simp
  | succ n ih =>
    intro k ok h hk
    by_cases hlt : k < l.length ∧ ok = true
    · obtain ⟨hlt, rfl⟩ := hlt
      by_cases hq : l[k] = 93
      · rw [subGo_hit l k hlt hq]; simp only; omega
      · have := declF_range l k hlt
        have := ih (declF l k).1 (declF l k).2 (by omega) (by omega)
        rw [subGo_next l k hlt hq]; omega
    · rw [subGo_end l k ok hlt]; simp
def subF (l : List Int) (k : Nat) : Nat × Bool := subGo l (k + 1) true
end Go.Proofs.YtlnojpllgclgfaaGreat
namespace Go.Proofs.YtlnojpllgclgfaaGreat
open Go.RowKit Go.Lib
theorem subF_range (l : List Int) (k : Nat) (hk : k < l.length) : k < (subF l k).1 ∧ (subF l k).1 ≤ l.length := by
  have := subGo_range l l.length (k + 1) true (by omega) (by omega)
  unfold subF; omega
def docGo (l : List Int) (k : Nat) (ok : Bool) : Nat × Bool :=
  if h : k < l.length ∧ ok = true then
    (if l[k]'h.1 = 62 then (k + 1, true) else if isQuo (l[k]'h.1) then docGo l (quotedF l k).1 (quotedF l k).2 else if l[k]'h.1 = 91 then docGo l (subF l k).1 (subF l k).2 else docGo l (k + 1) true)
  else (l.length, false)
termination_by l.length - k
decreasing_by
  · have := quotedF_gt l k h.1; omega
  · have := subF_range l k h.1; omega
  · omega
theorem docGo_end (l : List Int) (k : Nat) (ok : Bool) (h : ¬ (k < l.length ∧ ok = true)) : docGo l k ok = (l.length, false) := by rw [docGo, dif_neg h]
theorem docGo_hit (l : List Int) (k : Nat) (h : k < l.length) (hq : l[k] = 62) : docGo l k true = (k + 1, true) := by rw [docGo, dif_pos ⟨h, rfl⟩, if_pos hq]
theorem docGo_quo (l : List Int) (k : Nat) (h : k < l.length) (h1 : l[k] ≠ 62) (hq : isQuo l[k] = true) : docGo l k true = docGo l (quotedF l k).1 (quotedF l k).2 := by
  conv => lhs; rw [docGo]
  rw [dif_pos ⟨h, rfl⟩, if_neg h1, if_pos hq]
theorem docGo_sub (l : List Int) (k : Nat) (h : k < l.length) (hq : l[k] = 91) : docGo l k true = docGo l (subF l k).1 (subF l k).2 := by
  conv => lhs; rw [docGo]
  rw [dif_pos ⟨h, rfl⟩, if_neg (by rw [hq]; decide), if_neg (by rw [hq]; decide), if_pos hq]
theorem docGo_next (l : List Int) (k : Nat) (h : k < l.length) (h1 : l[k] ≠ 62) (h2 : isQuo l[k] = false) (h3 : l[k] ≠ 91) : docGo l k true = docGo l (k + 1) true := by
  conv => lhs; rw [docGo]
  rw [dif_pos ⟨h, rfl⟩, if_neg h1, if_neg (by simp [h2]), if_neg h3]
def docTF (l : List Int) (k : Nat) : Nat × Nat × Bool := (7, (docGo l (k + 9) true).1, (docGo l (k + 9) true).2)
def markupF (l : List Int) (k : Nat) : Nat × Nat × Bool :=
  if startsF l k [60, 33, 45, 45] = true then upToF l 4 k 4 [45, 45, 62]
  else if startsF l k [60, 33, 91, 67, 68, 65, 84, 65, 91] = true then upToF l 6 k 9 [93, 93, 62]
  else if startsF l k [60, 63] = true then upToF l 5 k 2 [63, 62]
  else if startsF l k [60, 33, 68, 79, 67, 84, 89, 80, 69] = true then docTF l k
  else if startsF l k [60, 47] = true then endTF l k
  else if 0 < leadF l (k + 1) then startTF l k
  else (11, k + 1, false)
def isPlain (r : Int) : Bool := r != 60 && (r != 38 && r != -1)
def nextTF (l : List Int) (k : Nat) : Nat × Nat × Bool :=
  if l.getD k 0 = 60 then markupF l k else if l.getD k 0 = 38 then refF l k else if l.getD k 0 = -1 then (11, k + 1, false)
  else (1, k + ((l.drop k).takeWhile isPlain).length, true)
end Go.Proofs.YtlnojpllgclgfaaGreat
namespace Go.Proofs.YtlnojpllgclgfaaGreat
open Go.RowKit Go.Lib
end Go.Proofs.YtlnojpllgclgfaaGreat
namespace Go.Proofs.YtlnojpllgclgfaaGreat
open Go.RowKit Go.Lib
end Go.Proofs.YtlnojpllgclgfaaGreat
namespace Go.Proofs.YtlnojpllgclgfaaGreat
open Go.RowKit Go.Lib
theorem starts_fits2 (l : List Int) (k : Nat) (bs : List UInt8) (hk : k ≤ l.length) (h : startsF l k bs = true) : k + bs.length ≤ l.length := by
  by_cases hn : l.length < k + bs.length
  · rw [starts_short l k bs hn hk] at h; cases h
  · omega
set_option maxHeartbeats 400000 in
set_option maxRecDepth 100000 in
theorem LPlain_any (r : Int) (w : World) : Calls Tryz.prog 115 #[.int .i32 r] w fun e w' => e = .returned (.bool (isPlain r)) ∧ w = w' := by
  by_cases h1 : r = 60
  · subst h1
    go_enter Tryz.func115, Tryz.ntmps115
    go_wp2
    go_ret
    exact ⟨rfl, rfl⟩
  · have h1b : (r != 60) = true := by simpa using h1
    by_cases h2 : r = 38
    · subst h2
      clear h1
      go_enter Tryz.func115, Tryz.ntmps115
      go_wp2
      go_ret
      exact ⟨rfl, rfl⟩
    · have h2b : (r != 38) = true := by simpa using h2
      have HE : Hid (isPlain r = (r != -1)) := by rw [Hid, isPlain, h1b, h2b, Bool.true_and, Bool.true_and]
      clear h1 h2
      go_enter Tryz.func115, Tryz.ntmps115
      go_wp2
      go_ret
      exact ⟨ret_bool HE.out.symm, rfl⟩
theorem LPlain_ok (w : World) : PredOk Tryz.prog 115 #[] isPlain w := fun W r _ => (LPlain_any r W).mono fun _ _ ⟨h1, h2⟩ => ⟨h1, h2 ▸ Below.refl _ _⟩
end Go.Proofs.YtlnojpllgclgfaaGreat
namespace Go.Proofs.YtlnojpllgclgfaaGreat
open Go.RowKit Go.Lib
theorem endGo_range (l : List Int) : ∀ (n k : Nat), l.length - k ≤ n → k ≤ l.length → k ≤ (endGo l k).1 ∧ (endGo l k).1 ≤ l.length := by
  intro n
  induction n with
  | zero =>
    intro k h hk
    rw [endGo_end l k (by omega)]
    simp only; omega
  | succ n ih =>
    intro k h hk
    by_cases hlt : k < l.length
    · by_cases h1 : l[k] = 62
      · rw [endGo_gt l k hlt h1]; simp only; omega
      · by_cases h2 : l[k] = 60
        · rw [endGo_lt l k hlt h2]; simp only; omega
        · have := ih (k + 1) (by omega) (by omega)
          rw [endGo_next l k hlt h1 h2]; omega
    · rw [endGo_end l k hlt]; simp only; omega
theorem docGo_range (l : List Int) : ∀ (n k : Nat) (ok : Bool), l.length - k ≤ n → k ≤ l.length → k ≤ (docGo l k ok).1 ∧ (docGo l k ok).1 ≤ l.length := by
  intro n
  induction n with
  | zero =>
    intro k ok h hk
    rw [docGo_end l k ok (by omega)]
    simp only; omega
  | succ n ih =>
    intro k ok h hk
    by_cases hlt : k < l.length ∧ ok = true
    · obtain ⟨hlt, rfl⟩ := hlt
      by_cases h1 : l[k] = 62
      · rw [docGo_hit l k hlt h1]; simp only; omega
      · cases h2 : isQuo l[k] with
        | true =>
          have := quotedF_gt l k hlt
          have := ih (quotedF l k).1 (quotedF l k).2 (by omega) (by omega)
          rw [docGo_quo l k hlt h1 h2]; omega
        | false =>
          by_cases h3 : l[k] = 91
          · have := subF_range l k hlt
            have := ih (subF l k).1 (subF l k).2 (by omega) (by omega)
            rw [docGo_sub l k hlt h3]; omega
          · have := ih (k + 1) true (by omega) (by omega)
            rw [docGo_next l k hlt h1 h2 h3]; omega
    · rw [docGo_end l k ok hlt]; simp only; omega
theorem markupF_range (l : List Int) (k : Nat) (hk : k < l.length) : k < (markupF l k).2.1 ∧ (markupF l k).2.1 ≤ l.length := by
  unfold markupF
  split
  · exact upToF_range l _ k _ _ hk (by decide)
  · split
    · exact upToF_range l _ k _ _ hk (by decide)
    · split
      · exact upToF_range l _ k _ _ hk (by decide)
      · split
        · rename_i h
          have h9 := starts_fits2 l k _ (by omega) h
          have h9 : k + 9 ≤ l.length := by simpa using h9
          have := docGo_range l l.length (k + 9) true (by omega) (by omega)
          unfold docTF; simp only; omega
        · split
          · rename_i h
            have h2 := starts_fits2 l k _ (by omega) h
            have h2 : k + 2 ≤ l.length := by simpa using h2
            have := endGo_range l l.length (k + 2) (by omega) (by omega)
            unfold endTF; simp only; omega
          · split
            · have h := angleF_range l true l.length (k + 1) (by omega) (by omega)
              unfold startTF
              split
              · simp only; omega
              · rename_i hb
                have := h.2.2 (by simpa using hb)
                split <;> (simp only; omega)
            · simp only; omega
theorem nextTF_range (l : List Int) (k : Nat) (hk : k < l.length) : k < (nextTF l k).2.1 ∧ (nextTF l k).2.1 ≤ l.length := by
  unfold nextTF
  rw [getD_at hk]
  split
  · exact markupF_range l k hk
  · split
    · exact ⟨refF_pos l k, refF_le l k hk⟩
    · split
      · simp only; omega
      · rename_i h1 h2 h3
        have hp : isPlain l[k] = true := by simp [isPlain, h1, h2, h3]
        have hs := (List.takeWhile_sublist isPlain (l := l.drop k)).length_le
        rw [List.length_drop] at hs
        rw [List.drop_eq_getElem_cons hk, List.takeWhile_cons, hp] at hs ⊢
        simp only [if_true, List.length_cons] at hs ⊢
        omega
def tokensGo (l : List Int) (k : Nat) : List ((Nat × Nat × Bool) × Nat) := if h : k < l.length then (nextTF l k, k) :: tokensGo l (nextTF l k).2.1 else []
termination_by l.length - k
decreasing_by
  have := nextTF_range l k h; omega
theorem tokensGo_cons (l : List Int) (k : Nat) (h : k < l.length) : tokensGo l k = (nextTF l k, k) :: tokensGo l (nextTF l k).2.1 := by
  conv => lhs; rw [tokensGo]
  rw [dif_pos h]
theorem tokensGo_nil (l : List Int) (k : Nat) (h : ¬ k < l.length) : tokensGo l k = [] := by rw [tokensGo, dif_neg h]
end Go.Proofs.YtlnojpllgclgfaaGreat
namespace Go.Proofs.YtlnojpllgclgfaaGreat
open Go.RowKit
end Go.Proofs.YtlnojpllgclgfaaGreat
namespace Go.Proofs.YtlnojpllgclgfaaGreat
open Go.RowKit Go.Lib
theorem indexByte_has (c : UInt8) : ∀ l : List UInt8, (0 ≤ Lib.indexByte l c) ↔ l.contains c = true
  | [] => by simp [Lib.indexByte]
  | b :: l => by
    have ih := indexByte_has c l
    have hg := Lib.indexByte_ge l c
    unfold Lib.indexByte
    by_cases hb : b = c
    · subst hb; simp
    · rw [if_neg (by simpa using hb)]
      simp only [List.contains_cons]
      rw [show (c == b) = false by simpa using fun h => hb h.symm, Bool.false_or, ← ih]
      split
      · rename_i h; have := beq_iff_eq.1 h; omega
      · rename_i h; have h : ¬ Lib.indexByte l c = -1 := by simpa using h
        omega
set_option maxHeartbeats 1000000 in
set_option maxRecDepth 100000 in
theorem IndexByteS_any (s : ByteArray) (c : Int) (w : World) :
    Calls Tryz.prog 124 #[.string s, .int .u8 c] w fun e w' => e = .returned (.int .i64 (Lib.indexByte s.data.toList c.toNat.toUInt8)) ∧ w = w' := by
  go_enter Tryz.func124, Tryz.ntmps124
  go_wp2
  rw [run_callFunc_extern Tryz.func144 (by kernel_rfl) (by kernel_rfl) (by kernel_rfl) (e := Extern.BytealgIndexByte.indexByte) (by kernel_rfl), Lib.run_indexByteString]
  simp only [Result.andThen]
  rw [Oper.upon_value]
  go_wp2
  go_ret
  exact ⟨rfl, rfl⟩
set_option maxHeartbeats 2000000 in
set_option maxRecDepth 100000 in
theorem IndexLite_any (s : ByteArray) (c : UInt8) (w : World) :
    Calls Tryz.prog 106 #[.string s, .string ⟨#[c]⟩] w fun e w' => ∃ k : Int, e = .returned (.int .i64 k) ∧ (0 ≤ k ↔ s.data.toList.contains c = true) ∧ w = w' := by
  have HI := fun W => Lib.hid (IndexByteS_any s c.toNat W)
  have hc : ((c.toNat : Int)).toNat.toUInt8 = c := by simp
  rw [hc] at HI
  have HX := Lib.hid (indexByte_has c s.data.toList)
  have HS := Lib.hid (show ([c] == s.toList) = true → (0 ≤ (0 : Int) ↔ s.data.toList.contains c = true) from fun h => by
    have e : s.data.toList = [c] := by rw [← ByteArray.toList_eq]; exact (beq_iff_eq.1 h).symm
    rw [e]; simp)
  generalize Lib.indexByte s.data.toList c = q at HI HX
  go_enter Tryz.func106, Tryz.ntmps106
  go_wp2_with (go_at_call 124; refine (HI _).out.mono ?_; rintro e w' ⟨rfl, rfl⟩)
  · have h : ([c] == s.toList) = true := by assumption
    go_ret
    exact ⟨0, rfl, HS.out h, rfl⟩
  · go_ret
    exact ⟨q, rfl, HX.out, rfl⟩
set_option maxHeartbeats 1000000 in
set_option maxRecDepth 100000 in
theorem IndexStr_any (s : ByteArray) (c : UInt8) (w : World) :
    Calls Tryz.prog 82 #[.string s, .string ⟨#[c]⟩] w fun e w' => ∃ k : Int, e = .returned (.int .i64 k) ∧ (0 ≤ k ↔ s.data.toList.contains c = true) ∧ w = w' := by
  have HI := fun W => Lib.hid (IndexLite_any s c W)
  go_enter Tryz.func82, Tryz.ntmps82
  go_wp2_with fail
  refine (HI _).out.mono ?_
  rintro e w' ⟨k, rfl, hk, rfl⟩
  have HK := Lib.hid hk
  clear hk
  go_wp2
  go_ret
  exact ⟨k, rfl, HK.out, rfl⟩
set_option maxHeartbeats 1000000 in
set_option maxRecDepth 100000 in
theorem ContainsStr_any (s : ByteArray) (c : UInt8) (w : World) :
    Calls Tryz.prog 64 #[.string s, .string ⟨#[c]⟩] w fun e w' => e = .returned (.bool (s.data.toList.contains c)) ∧ w = w' := by
  have HI := fun W => Lib.hid (IndexStr_any s c W)
  go_enter Tryz.func64, Tryz.ntmps64
  go_wp2_with fail
  refine (HI _).out.mono ?_
  rintro e w' ⟨k, rfl, hk, rfl⟩
  have HK := Lib.hid hk
  clear hk
  go_wp2
  go_ret
  refine ⟨ret_bool ?_, rfl⟩
  rw [Bool.eq_iff_iff, ← HK.out, decide_eq_true_iff]
end Go.Proofs.YtlnojpllgclgfaaGreat
namespace Go.Proofs.YtlnojpllgclgfaaGreat
open Go.RowKit Go.Lib
end Go.Proofs.YtlnojpllgclgfaaGreat
namespace Go.Proofs.YtlnojpllgclgfaaGreat
open Go.RowKit Go.Lib
end Go.Proofs.YtlnojpllgclgfaaGreat
namespace Go.Proofs.YtlnojpllgclgfaaGreat
open Go.RowKit Go.Lib
set_option maxRecDepth 100000 in
theorem NotAmp_any (r : Int) (w : World) : Calls Tryz.prog 74 #[.int .i32 r] w fun e w' => e = .returned (.bool (notAmp r)) ∧ w = w' := by
  go_enter Tryz.func74, Tryz.ntmps74
  go_wp2
  go_ret
  exact ⟨rfl, rfl⟩
theorem NotAmp_ok (w : World) : PredOk Tryz.prog 74 #[] notAmp w := fun W r _ => (NotAmp_any r W).mono fun _ _ ⟨h1, h2⟩ => ⟨h1, h2 ▸ Below.refl _ _⟩
end Go.Proofs.YtlnojpllgclgfaaGreat
