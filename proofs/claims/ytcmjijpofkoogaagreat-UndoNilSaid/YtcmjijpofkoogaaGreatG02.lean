/- Lemmas, conditions told -/
import Derived.Test.YtcmjijpofkoogaaGreatG01
import Derived.Lib.AppendStr
import Derived.Deep.MidRow
set_option linter.unusedSimpArgs false
set_option linter.unusedVariables false
namespace Go.Proofs.YtcmjijpofkoogaaGreat
open Go.RowKit Go.Lib
def startsF (l : List Int) (k : Nat) (bs : List UInt8) : Bool := bs.all (fun b => decide (b.toNat < 128)) && ((l.drop k).take bs.length == bi bs)
theorem starts_upto (l : List Int) (k : Nat) (bs : List UInt8) (hl : k + bs.length ≤ l.length)
    (h : ∀ i (h : i < bs.length), bs[i].toNat < 128 ∧ l[k + i]'(by omega) = bs[i].toNat) : startsF l k bs = true := by
  rw [startsF, Bool.and_eq_true]
  refine ⟨List.all_eq_true.2 fun b hb => ?_, ?_⟩
  · obtain ⟨i, hi, rfl⟩ := List.getElem_of_mem hb
    exact decide_eq_true (h i hi).1
  · rw [beq_iff_eq]
    apply List.ext_getElem
    · simp [bi]; omega
    · intro i h1 h2
      rw [List.getElem_take, List.getElem_drop]
      have hi : i < bs.length := by simpa [bi] using h2
      rw [(h i hi).2]
      simp [bi]
theorem starts_miss (l : List Int) (k : Nat) (bs : List UInt8) (i : Nat) (hi : i < bs.length) (hl : k + i < l.length) (h : ¬ (bs[i].toNat < 128 ∧ l[k + i] = bs[i].toNat)) : startsF l k bs = false := by
  cases hs : startsF l k bs with
  | false => rfl
  | true =>
    exfalso
    rw [startsF, Bool.and_eq_true, beq_iff_eq] at hs
    obtain ⟨h1, h2⟩ := hs
    refine h ⟨of_decide_eq_true (List.all_eq_true.1 h1 _ (List.getElem_mem hi)), ?_⟩
    have h3 := congrArg (fun x => x[i]?) h2
    simp only [List.getElem?_take, List.getElem?_drop, hi, if_true, bi, List.getElem?_map, List.getElem?_eq_getElem hi, List.getElem?_eq_getElem hl, Option.map_some, Option.some.injEq] at h3
    exact h3
theorem starts_short (l : List Int) (k : Nat) (bs : List UInt8) (h : l.length < k + bs.length) (hk : k ≤ l.length) : startsF l k bs = false := by
  cases hs : startsF l k bs with
  | false => rfl
  | true =>
    exfalso
    rw [startsF, Bool.and_eq_true, beq_iff_eq] at hs
    have := congrArg List.length hs.2
    simp [bi] at this
    omega
set_option maxHeartbeats 1000000 in
set_option maxRecDepth 100000 in
theorem Starts_any (S : Nat → Prop) (A : Option Addr) (n c : Nat) (l : List Int) (k : Nat) (s : ByteArray) (w : World) (hr : Rd w S 1 A n c (rc l)) (hk : k ≤ l.length) (hk9 : l.length ≤ 1000000000) (hs9 : s.size ≤ 1000000000) :
    Calls Tryz.prog 22 #[.slice A n c, .int .i64 k, .string s] w fun e w' => e = .returned (.bool (startsF l k s.data.toList)) ∧ Below w.heap.size w w' := by
  obtain rfl := hr.rlen
  have hle := hr.le
  have hmx : c ≤ 9223372036854775807 := hr.max
  have HR := Lib.hid hr
  clear hr
  have hsz : s.data.toList.length = s.size := by simp
  have hkl : ¬ (k : Int) > (l.length : Int) := by omega
  by_cases hshort : l.length < k + s.size
  · have HE := Lib.hid (starts_short l k s.data.toList (by omega) hk)
    have hsh : (l.length : Int) - (k : Int) < (s.size : Int) := by omega
    go_enter Tryz.func22, Tryz.ntmps22
    go_wp2
    go_ret
    exact ⟨ret_bool HE.out.symm, Below.refl _ _⟩
  · have hsh : ¬ (l.length : Int) - (k : Int) < (s.size : Int) := by omega
    go_enter Tryz.func22, Tryz.ntmps22
    go_wp2
    go_loopw [27] (fun i wr => ∃ j : Nat, j ≤ s.size ∧ i = .int .i64 j ∧ Hid (Below w.heap.size w wr) ∧ Hid (∀ i, i < j → (h1 : i < s.data.toList.length) → (h2 : k + i < l.length) → s.data.toList[i].toNat < 128 ∧ l[k + i] = s.data.toList[i].toNat)) (fun i _ => s.size - (intOf i).toNat)
    case atStart => exact ⟨0, Nat.zero_le _, rfl, Below.refl _ _, fun i h => absurd h (by omega)⟩
    case round =>
      obtain ⟨j, hj, rfl, HB, HJ⟩ := hrel
      by_cases hlt : j < s.size
      · have hlt2 : j < s.data.toList.length := by omega
        have hlt3 : j < s.data.size := hlt
        have hkj : k + j < l.length := by omega
        have hkj' : (k : Int) + (j : Int) < (l.length : Int) := by omega
        obtain ⟨b, o, rfl, hc0⟩ := (HR.out.below HB.out).rune hkj
        have hx : s.data.toList[j] = s.data[j] := by simp
        have hb := (s.data[j]).toNat_lt
        have hw : wrap32 ((s[j]).toNat : Int) = ((s.data[j]).toNat : Int) := by
          show wrap32 ((s.data[j]).toNat : Int) = _
          rw [← IntWalk.i32_left]; exact IntWalk.i32_in _ (by omega)
        have HM := Lib.hid (starts_miss l k s.data.toList j hlt2 hkj)
        have HX := Lib.hid hx
        rw [hx] at HM
        have HJ2 : (s.data[j]).toNat < 128 → l[k + j] = (s.data[j]).toNat → Hid (∀ i, i < j + 1 → (h1 : i < s.data.toList.length) → (h2 : k + i < l.length) → s.data.toList[i].toNat < 128 ∧ l[k + i] = s.data.toList[i].toNat) := fun e1 e2 i hi h1 h2 => by
          by_cases e : i = j
          · subst e; rw [HX.out]; exact ⟨e1, e2⟩
          · exact HJ.out i (by omega) h1 h2
        clear hx
        generalize l[k + j] = r at hc0 HM HJ2
        by_cases h128 : (s.data[j]).toNat < 128
        · have hge : ¬ ((s.data[j]).toNat : Int) ≥ 128 := by omega
          have hge3 : decide ((128 : Int) ≤ ((s[j]).toNat : Int)) = false := by show decide ((128 : Int) ≤ ((s.data[j]).toNat : Int)) = false; rw [decide_eq_false_iff_not]; omega
          by_cases hrb : r = (s.data[j]).toNat
          · have HJ3 := HJ2 h128 hrb
            have hn : (r != ((s.data[j]).toNat : Int)) = false := by simpa using hrb
            clear HJ2 HM
            go_wp2
            go_quiet (fail)
            go_wp2
            go_roundw
            case rel => exact ⟨j + 1, by omega, by go_num, below_drewN HB.out _, HJ3.out⟩
            case measure => simp [intOf]; omega
          · have HE : Hid (startsF l k s.data.toList = false) := HM.out fun h => hrb h.2
            have hn : (r != ((s.data[j]).toNat : Int)) = true := by simpa using hrb
            clear HJ2 HM
            go_wp2
            go_quiet (fail)
            go_wp2
            go_ret
            exact ⟨ret_bool HE.out.symm, below_drewN HB.out _⟩
        · have hge : ((s.data[j]).toNat : Int) ≥ 128 := by omega
          have hge3 : decide ((128 : Int) ≤ ((s[j]).toNat : Int)) = true := by show decide ((128 : Int) ≤ ((s.data[j]).toNat : Int)) = true; rw [decide_eq_true_iff]; omega
          have HE : Hid (startsF l k s.data.toList = false) := HM.out fun h => h128 h.1
          clear HJ2 HM
          go_wp2
          go_quiet (fail)
          go_wp2
          go_ret
          exact ⟨ret_bool HE.out.symm, below_drewN HB.out _⟩
      · have HE : Hid (startsF l k s.data.toList = true) := starts_upto l k _ (by omega) fun i h => HJ.out i (by omega) h (by omega)
        go_wp2
        go_ret
        exact ⟨ret_bool HE.out.symm, HB.out⟩
end Go.Proofs.YtcmjijpofkoogaaGreat
namespace Go.Proofs.YtcmjijpofkoogaaGreat
open Go.RowKit Go.Lib
def findF (l : List Int) (k t : Nat) (bs : List UInt8) : Option Nat := (List.range' k (t + 1 - bs.length - k)).find? (fun i => startsF l i bs)
theorem findF_hit (l : List Int) (k t : Nat) (bs : List UInt8) (j : Nat) (hk : k ≤ j) (ht : j + bs.length ≤ t) (h : ∀ i, k ≤ i → i < j → startsF l i bs = false) (hj : startsF l j bs = true) : findF l k t bs = some j := by
  rw [findF, List.find?_range'_eq_some]
  exact ⟨hj, List.mem_range'_1.2 ⟨hk, by omega⟩, fun i h1 h2 => by rw [h i h1 h2]; rfl⟩
theorem findF_none (l : List Int) (k t : Nat) (bs : List UInt8) (h : ∀ i, k ≤ i → i + bs.length ≤ t → startsF l i bs = false) : findF l k t bs = none := by
  rw [findF, List.find?_eq_none]
  intro i hi
  have := List.mem_range'_1.1 hi
  rw [h i this.1 (by omega)]
  decide
set_option maxHeartbeats 1000000 in
set_option maxRecDepth 100000 in
theorem LFind_any (S : Nat → Prop) (A : Option Addr) (n c : Nat) (l : List Int) (k t : Nat) (s : ByteArray) (w : World) (hr : Rd w S 1 A n c (rc l)) (hk : k ≤ l.length) (ht : t ≤ l.length) (hk9 : l.length ≤ 1000000000) (hs9 : s.size ≤ 1000000000) :
    Calls Tryz.prog 285 #[.slice A n c, .int .i64 k, .int .i64 t, .string s] w fun e w' => e = .returned (.tuple #[.int .i64 ((findF l k t s.data.toList).getD 0), .bool (findF l k t s.data.toList).isSome]) ∧ Below w.heap.size w w' := by
  obtain rfl := hr.rlen
  have hle := hr.le
  have hmx : c ≤ 9223372036854775807 := hr.max
  have HR := Lib.hid hr
  clear hr
  have hkl : ¬ (k : Int) > (l.length : Int) := by omega
  have htl : ¬ (t : Int) > (l.length : Int) := by omega
  have hsz : s.data.toList.length = s.size := by simp
  have HS := fun W (j : Nat) (hj : j ≤ l.length) (h : Below w.heap.size w W) => Lib.hid (Starts_any S A l.length c l j s W (HR.out.below h) hj hk9 hs9)
  have HH := Lib.hid (findF_hit l k t s.data.toList)
  have HN := Lib.hid (findF_none l k t s.data.toList)
  generalize findF l k t s.data.toList = q at HH HN ⊢
  go_enter Tryz.func285, Tryz.ntmps285
  go_wp2
  go_loopw [10] (fun i wr => ∃ j : Nat, k ≤ j ∧ j ≤ l.length + 1 ∧ i = .int .i64 j ∧ Hid (Below w.heap.size w wr) ∧ Hid (∀ i, k ≤ i → i < j → startsF l i s.data.toList = false)) (fun i _ => l.length + 1 - (intOf i).toNat)
  case atStart => exact ⟨k, Nat.le_refl _, by omega, rfl, Below.refl _ _, fun i h1 h2 => absurd h2 (by omega)⟩
  case round =>
    obtain ⟨j, hj1, hj2, rfl, HB, HJ⟩ := hrel
    by_cases hlt : j + s.size ≤ t
    · have hlt2 : (j : Int) ≤ (t : Int) - (s.size : Int) := by omega
      have HC := HS _ j (by omega) HB.out
      cases hq : startsF l j s.data.toList with
      | true =>
        rw [hq] at HC
        have HE : Hid (q = some j) := HH.out j hj1 (by omega) HJ.out hq
        clear hq
        go_wp2_with (go_at_call 22; refine HC.out.mono ?_; rintro e w' ⟨rfl, hb⟩)
        go_ret2
        rw [HE.out]
        exact ⟨rfl, HB.out.trans (hb.mono HB.out.size)⟩
      | false =>
        rw [hq] at HC
        have HJ2 : Hid (∀ i, k ≤ i → i < j + 1 → startsF l i s.data.toList = false) := fun i h1 h2 => by
          by_cases e : i = j
          · subst e; exact hq
          · exact HJ.out i h1 (by omega)
        clear hq
        go_wp2_with (go_at_call 22; refine HC.out.mono ?_; rintro e w' ⟨rfl, hb⟩)
        go_roundw
        case rel => exact ⟨j + 1, by omega, by omega, by go_num, HB.out.trans (hb.mono HB.out.size), HJ2.out⟩
        case measure => simp [intOf]; omega
    · have hlt2 : ¬ (j : Int) ≤ (t : Int) - (s.size : Int) := by omega
      have HE : Hid (q = none) := HN.out fun i h1 h2 => HJ.out i h1 (by omega)
      go_wp2
      go_ret2
      rw [HE.out]
      exact ⟨rfl, HB.out⟩
def I32 (l : List Int) : Prop := ∀ x ∈ l, -2147483648 ≤ x ∧ x ≤ 2147483647
end Go.Proofs.YtcmjijpofkoogaaGreat
namespace Go.Proofs.YtcmjijpofkoogaaGreat
open Go.RowKit Go.Lib
def bytesF (l : List Int) : List UInt8 := l.flatMap runeF
theorem enc8_rune (r : Int) (h : 0 < widthF r) : enc8 r = encodeRune r := by
  unfold widthF at h
  split at h
  · omega
  · rename_i h1
    have hv : Utf8.valid r = true := by simp [Utf8.valid]; omega
    by_cases h2 : r < 128
    · rw [enc8_small r (by omega) h2, encodeRune, encodeRuneZ_one (by omega) (by omega)]; rfl
    · unfold enc8 Utf8.encode
      simp only [hv, if_true]
      rw [if_neg (by omega)]
      by_cases h3 : r < 2048
      · rw [if_pos (by omega), encodeRune, encodeRuneZ_two (by omega) (by omega)]
        simp only [List.map_cons, List.map_nil]
        rw [show ((192 + r / 64).toNat) = 192 + r.toNat / 64 by omega, show ((128 + r % 64).toNat) = 128 + r.toNat % 64 by omega]
      · rw [if_neg (by omega)]
        by_cases h4 : r < 65536
        · rw [if_pos (by omega), encodeRune, encodeRuneZ_three (by omega)]
          simp only [List.map_cons, List.map_nil]
          rw [show ((224 + r / 4096).toNat) = 224 + r.toNat / 4096 by omega, show ((128 + r / 64 % 64).toNat) = 128 + r.toNat / 64 % 64 by omega, show ((128 + r % 64).toNat) = 128 + r.toNat % 64 by omega]
        · rw [if_neg (by omega), encodeRune, encodeRuneZ_four (by omega) (by omega)]
          simp only [List.map_cons, List.map_nil]
          rw [show ((240 + r / 262144).toNat) = 240 + r.toNat / 262144 by omega, show ((128 + r / 4096 % 64).toNat) = 128 + r.toNat / 4096 % 64 by omega, show ((128 + r / 64 % 64).toNat) = 128 + r.toNat / 64 % 64 by omega, show ((128 + r % 64).toNat) = 128 + r.toNat % 64 by omega]
theorem runeF_len (r : Int) : (runeF r).length ≤ 4 := by
  unfold runeF
  split
  · simp
  · rw [enc_width r (by omega)]; unfold widthF; repeat' split
    all_goals omega
theorem runeF_enc (r : Int) (h : 0 < widthF r) : (Utf8.encode r).data.toList = runeF r := by rw [runeF, if_neg (by omega)]; exact enc8_rune r h
theorem bytesF_len (l : List Int) : (bytesF l).length ≤ 4 * l.length := by
  induction l with
  | nil => simp [bytesF]
  | cons r t ih =>
    have := runeF_len r
    simp only [bytesF, List.flatMap_cons, List.length_append, List.length_cons] at ih ⊢
    omega
theorem bytesF_step (l : List Int) (k : Nat) (h : k < l.length) : bytesF (l.take (k + 1)) = bytesF (l.take k) ++ runeF l[k] := by
  rw [bytesF, bytesF, List.take_succ_eq_append_getElem h, List.flatMap_append]; simp
theorem Tryz.info5 : (Tryz.prog.info? 5).map (fun i => (i.zero, i.size, i.bytes)) = some (some (.int .u8 0), 1, 1) := by kernel_rfl
theorem append_bytes (w : World) {ops : Array Oper} {rest : List Oper} {o : Oper} {a : Act} {Q : Exit → Act → World → Prop} (hgd : o.guard = none) (s x : Operand)
    (ho : o.op = .call { callee := .builtin .append, args := #[s, x], argTypes := #[41, 41] })
    (base : Nat) (v : Value) (n : Nat) (xs : List UInt8) (hs : a.eval s = v) (hown : w.ownsRow base 5 1 v n (bc xs))
    (S : Nat → Prop) (A : Option Addr) (m c : Nat) (ys : List UInt8) (hx : a.eval x = .slice A m c) (hr : Rd w S 1 A m c (bc ys))
    (hlen : n + m ≤ 1000000000) (hbase : base ≤ w.heap.size)
    (h : ∀ A' c' w', w'.ownsRow base 5 1 (.slice A' (n + m) c') (n + m) (bc (xs ++ ys)) → w.grownBy w' v.ownBlock →
      c' ≤ 9223372036854775807 → wpList Tryz.prog ops Q rest (a.put o.dst (.slice A' (n + m) c')) w') :
    wpList Tryz.prog ops Q (o :: rest) a w := by
  obtain ⟨i0, hi, hz0, hz1, hz2⟩ := info_parts Tryz.info5
  refine wpList_append_rd w hgd s x 41 ho base 5 i0 _ 1 1 Tryz.underlying41 hi hz0 hz1 hz2 rfl (by omega) v n (bc xs) hs hown S A m c (bc ys) hx hr (bc_one ys) (by simp only [maxLen]; omega) (by omega) hbase ?_
  intro v' w' h1 h2 h3
  obtain ⟨A', c', rfl, hr'⟩ := own_form h1
  exact h A' c' w' (by simpa [bc] using h1) h2 hr'.max
theorem append_str (w : World) {ops : Array Oper} {rest : List Oper} {o : Oper} {a : Act} {Q : Exit → Act → World → Prop} (hgd : o.guard = none) (s x : Operand)
    (ho : o.op = .call { callee := .builtin .append, args := #[s, x], argTypes := #[41, 9] })
    (base : Nat) (v : Value) (n : Nat) (xs : List UInt8) (hs : a.eval s = v) (hown : w.ownsRow base 5 1 v n (bc xs))
    (str : ByteArray) (hx : a.eval x = .string str) (hlen : n + str.size ≤ 1000000000) (hbase : base ≤ w.heap.size)
    (h : ∀ A' c' w', w'.ownsRow base 5 1 (.slice A' (n + str.size) c') (n + str.size) (bc (xs ++ str.data.toList)) → w.grownBy w' v.ownBlock →
      c' ≤ 9223372036854775807 → wpList Tryz.prog ops Q rest (a.put o.dst (.slice A' (n + str.size) c')) w') :
    wpList Tryz.prog ops Q (o :: rest) a w := by
  obtain ⟨i0, hi, hz0, hz1, hz2⟩ := info_parts Tryz.info5
  refine wpList_append_own_string w hgd s x 41 9 ho base 5 i0 Tryz.underlying41 Tryz.underlying9 hi hz0 hz1 hz2 v n (bc xs) hs hown str hx (by simp only [maxLen]; omega) (by omega) hbase ?_
  intro v' w' h1 h2 h3
  obtain ⟨A', c', rfl, hr'⟩ := own_form h1
  exact h A' c' w' (by simpa [bc, strCells] using h1) h2 hr'.max
theorem bc_own_len {w : World} {base : Nat} {e : TypeId} {v : Value} {n : Nat} {xs : List UInt8} (h : w.ownsRow base e 1 v n (bc xs)) : n = xs.length := by have := h.1; simpa using this.symm
set_option maxHeartbeats 1000000 in
set_option maxRecDepth 100000 in
theorem Bytes_any (S : Nat → Prop) (A : Option Addr) (n c : Nat) (l : List Int) (w : World) (hr : Rd w S 1 A n c (rc l)) (hn9 : l.length ≤ 100000000) :
    Calls Tryz.prog 95 #[.slice A n c] w fun e w' => ∃ v, e = .returned v ∧ (∃ n', w'.ownsRow w.heap.size 5 1 v n' (bc (bytesF l))) ∧ Below w.heap.size w w' := by
  obtain rfl := hr.rlen
  have hle := hr.le
  have hmx : c ≤ 9223372036854775807 := hr.max
  have HR := Lib.hid hr
  clear hr
  go_enter Tryz.func95, Tryz.ntmps95
  go_wp2
  go_loopw [3, 8] (fun v i wr => ∃ (k : Nat), k ≤ l.length ∧ i = .int .i64 k ∧ Hid (∃ n', wr.ownsRow w.heap.size 5 1 v n' (bc (bytesF (l.take k)))) ∧ Hid (Below w.heap.size w wr))
    (fun _ i _ => l.length - (intOf i).toNat)
  case atStart => exact ⟨0, Nat.zero_le _, rfl, ⟨0, World.ownsRow_nil w w.heap.size 5 1⟩, Below.refl _ _⟩
  case round =>
    obtain ⟨k, hk, rfl, HO, HB⟩ := hrel
    obtain ⟨no, HO⟩ := HO.out
    have hno := bc_own_len HO
    have hno2 : no ≤ 400000000 := by have := bytesF_len (l.take k); simp at this; omega
    clear hno
    obtain ⟨Ao, co, rfl, hro⟩ := own_form HO
    have hco2 : co ≤ 9223372036854775807 := hro.max
    have HO := Lib.hid HO
    clear hro
    by_cases hlt : k < l.length
    · obtain ⟨b, u, rfl, hc0⟩ := (HR.out.below HB.out).rune hlt
      have HST := Lib.hid (bytesF_step l k hlt)
      have HW := fun w => Lib.hid (Width_any l[k] w)
      have HE := Lib.hid (runeF_enc l[k])
      have hes := runeF_len l[k]
      have HZ := Lib.hid (fun (h : widthF l[k] = 0) => (by rw [runeF, if_pos h] : runeF l[k] = []))
      generalize l[k] = r at hc0 HST HW HE hes HZ
      by_cases h0 : widthF r = 0
      · have hw0 : ¬ ((widthF r : Nat) : Int) > 0 := by omega
        have HZ2 := Lib.hid (HZ.out h0)
        clear HZ HE h0
        generalize widthF r = wd at HW hw0
        go_wp2_with (go_at_call 140; refine (HW _).out.mono ?_; rintro e w' ⟨rfl, rfl⟩)
        go_roundw
        case rel => exact ⟨k + 1, by omega, by go_num, ⟨_, by rw [HST.out, HZ2.out, List.append_nil]; exact HO.out⟩, HB.out⟩
        case measure => simp [intOf]; omega
      · have hw0 : ((widthF r : Nat) : Int) > 0 := by omega
        have HE2 := Lib.hid (HE.out (by omega))
        have hsz : (Utf8.encode r).size ≤ 4 := by
          have e : (Utf8.encode r).data.toList.length = (Utf8.encode r).size := by simp
          rw [← e, HE2.out]; exact hes
        clear HZ HE h0
        generalize widthF r = wd at HW hw0
        go_wp2_with (first
          | (go_at_call 140; refine (HW _).out.mono ?_; rintro e w' ⟨rfl, rfl⟩)
          | (at_builtin
             refine append_str _ rfl (.tmp 15) (.tmp 17) rfl w.heap.size _ _ _ rfl HO.out (Utf8.encode r) rfl (by omega) HB.out.size ?_
             intro A4 c4 w4 hown4 hg4 _
             have hb4 := below_own HB.out HB.out.size HO.out hg4
             rw [HE2.out] at hown4
             have HB4 := Lib.hid hb4
             have HO4 := Lib.hid hown4
             clear hown4 hg4 hb4))
        go_roundw
        case rel => exact ⟨k + 1, by omega, by go_num, ⟨_, by rw [HST.out]; exact HO4.out⟩, HB4.out⟩
        case measure => simp [intOf]; omega
    · have e : l.take k = l := List.take_of_length_le (by omega)
      rw [e] at HO
      go_wp2
      go_ret
      exact ⟨_, rfl, ⟨_, HO.out⟩, HB.out⟩
end Go.Proofs.YtcmjijpofkoogaaGreat
namespace Go.Proofs.YtcmjijpofkoogaaGreat
open Go.RowKit Go.Lib
end Go.Proofs.YtcmjijpofkoogaaGreat
namespace Go.Proofs.YtcmjijpofkoogaaGreat
open Go.RowKit Go.Lib
def isDig (r : Int) : Bool := (digitF r).2
def isHex (r : Int) : Bool := (hexF r).2
def endedF (l : List Int) (p n : Nat) : Bool := decide (0 < n) && (l[p + n]? == some 59)
def digN (l : List Int) (k : Nat) : Nat := ((l.drop (k + 2)).takeWhile isDig).length
def hexN (l : List Int) (k : Nat) : Nat := ((l.drop (k + 3)).takeWhile isHex).length
def refF (l : List Int) (k : Nat) : Nat × Nat × Bool :=
  if startsF l k [38, 35, 120] && endedF l (k + 3) (hexN l k) then (3, k + 4 + hexN l k, true)
  else if startsF l k [38, 35] && endedF l (k + 2) (digN l k) then (3, k + 3 + digN l k, true)
  else if endedF l (k + 1) (leadF l (k + 1)) then (2, k + 2 + leadF l (k + 1), true)
  else (11, k + 1, false)
def notAmp (r : Int) : Bool := r != 38
theorem lead_shift (l : List Int) (k p : Nat) : leadF l (k + p) = leadF (l.drop k) p := by
  rw [leadF, leadF, List.getElem?_drop, List.drop_drop]
theorem refF_pos (l : List Int) (k : Nat) : k < (refF l k).2.1 := by
  unfold refF
  repeat' split
  all_goals (simp only; omega)
theorem ended_le (l : List Int) (p n : Nat) (h : endedF l p n = true) : p + n < l.length := by
  rw [endedF, Bool.and_eq_true, beq_iff_eq] at h
  exact (List.getElem?_eq_some_iff.1 h.2).1
theorem refF_le (l : List Int) (k : Nat) (hk : k < l.length) : (refF l k).2.1 ≤ l.length := by
  unfold refF
  split
  · rename_i h
    have := ended_le _ _ _ (Bool.and_eq_true_iff.1 h).2
    simp only; omega
  · split
    · rename_i h
      have := ended_le _ _ _ (Bool.and_eq_true_iff.1 h).2
      simp only; omega
    · split
      · rename_i h
        have := ended_le _ _ _ h
        simp only; omega
      · simp only; omega
end Go.Proofs.YtcmjijpofkoogaaGreat
namespace Go.Proofs.YtcmjijpofkoogaaGreat
open Go.RowKit Go.Lib
theorem there_below {w W : World} {b o n : Nat} (h : w.there b o n) (hb : Below w.heap.size w W) (hlt : b < w.heap.size) : W.there b o n := fun j hj => by
  obtain ⟨h1, h2⟩ := h j hj
  refine ⟨?_, ?_⟩
  · rw [World.cell?_of_block (hb.block _ hlt)]; exact h1
  · rw [World.frozen?_of_block (hb.block _ hlt)]; exact h2
theorem there_lit (w : World) (cs : Array Value) (t : TypeId) : (w.alloc (.cells cs t)).there w.heap.size 0 cs.size := fun j hj => by
  refine ⟨?_, by simp⟩
  rw [World.cell?_alloc_at _ _ _ _ rfl]
  simp [hj]
theorem below_setCells2 {B : Nat} {w0 w : World} (h : Below B w0 w) (b : Nat) (hb : B ≤ b) (vs : List Value) (o : Nat) : Below B w0 (w.setCells b o vs) := by
  induction vs generalizing o w with
  | nil => exact h
  | cons v r ih => exact ih (h.setCell hb _) (o + 1)
theorem load_struct {P : Program} {T : TypeId} {d : TypeDesc} (W : World) (B : Nat) (vs : List Value) (ht : W.there B 0 vs.length) (hi : (P.info? T).map (·.size) = some vs.length)
    (hu : P.underlying T = some d) (hd : d.isRow = true) : (loadVar T ⟨B, 0, none⟩).run P (W.setCells B 0 vs) = .ok (.agg vs.toArray) (W.setCells B 0 vs) :=
  run_loadVar_mid (P := P) (W.setCells B 0 vs) B 0 T vs d (World.rangeAt_setCells_same W B 0 vs ht) hu hd hi
theorem there_cell {w : World} {b n : Nat} (h : w.there b 0 n) (i : Nat) (hi : i < n) : (∃ v, w.cell? ⟨b, i, none⟩ = some v) ∧ w.frozen? ⟨b, i, none⟩ = false := by
  have := h i hi
  rw [Nat.zero_add] at this
  exact ⟨Option.isSome_iff_exists.1 this.1, this.2⟩
theorem results_cell1 {P : Program} {fn : Func} {t : Tmp} {T : TypeId} {a : Addr} {v : Value} {w : World} (h : fn.results = #[.cell t T]) (tmps : Array Value)
    (ha : tmps.getD t undef = .pointer (some a)) (hl : (loadVar T a).run P w = .ok v w) : (results fn tmps).run P w = .ok v w := by
  have ha' : tmps[t]?.getD undef = .pointer (some a) := by simpa using ha
  simp [results, h, ha', asAddr, hl]
theorem results_cell2 {P : Program} {fn : Func} {t u : Tmp} {T : TypeId} {a : Addr} {v : Value} {w : World} (h : fn.results = #[.cell t T, .tmp u]) (tmps : Array Value)
    (ha : tmps.getD t undef = .pointer (some a)) (hl : (loadVar T a).run P w = .ok v w) : (results fn tmps).run P w = .ok (.tuple #[v, tmps.getD u undef]) w := by
  have ha' : tmps[t]?.getD undef = .pointer (some a) := by simpa using ha
  simp [results, h, ha', asAddr, hl]
set_option maxRecDepth 100000 in
theorem LDigit_any (r : Int) (w : World) : Calls Tryz.prog 236 #[.int .i32 r] w fun e w' => e = .returned (.bool (isDig r)) ∧ w = w' := by
  have HD := Lib.hid (Digit_any r w)
  generalize (digitF r).1 = d1 at HD
  have HQ : Hid (isDig r = (digitF r).2) := rfl
  generalize (digitF r).2 = d2 at HD HQ
  go_enter Tryz.func236, Tryz.ntmps236
  go_wp2_with fail
  refine HD.out.mono ?_
  rintro e w' ⟨rfl, rfl⟩
  go_wp2
  go_ret
  exact ⟨ret_bool HQ.out.symm, rfl⟩
set_option maxRecDepth 100000 in
theorem LHex_any (r : Int) (w : World) : Calls Tryz.prog 237 #[.int .i32 r] w fun e w' => e = .returned (.bool (isHex r)) ∧ w = w' := by
  have HD := Lib.hid (Hex_any r w)
  generalize (hexF r).1 = d1 at HD
  have HQ : Hid (isHex r = (hexF r).2) := rfl
  generalize (hexF r).2 = d2 at HD HQ
  go_enter Tryz.func237, Tryz.ntmps237
  go_wp2_with fail
  refine HD.out.mono ?_
  rintro e w' ⟨rfl, rfl⟩
  go_wp2
  go_ret
  exact ⟨ret_bool HQ.out.symm, rfl⟩
theorem LDigit_ok (w : World) : PredOk Tryz.prog 236 #[] isDig w := fun W r _ => (LDigit_any r W).mono fun _ _ ⟨h1, h2⟩ => ⟨h1, h2 ▸ Below.refl _ _⟩
theorem LHex_ok (w : World) : PredOk Tryz.prog 237 #[] isHex w := fun W r _ => (LHex_any r W).mono fun _ _ ⟨h1, h2⟩ => ⟨h1, h2 ▸ Below.refl _ _⟩
theorem eg_LDigit : ∀ args w, (callFunc 236 args).run Tryz.prog w = .ok (.enter 236 args) w := enters_of Tryz.func236 (by kernel_rfl) rfl
theorem eg_LHex : ∀ args w, (callFunc 237 args).run Tryz.prog w = .ok (.enter 237 args) w := enters_of Tryz.func237 (by kernel_rfl) rfl
set_option maxHeartbeats 1000000 in
set_option maxRecDepth 100000 in
theorem Ended_any (S : Nat → Prop) (A : Option Addr) (n c : Nat) (l : List Int) (p m : Nat) (w : World) (hr : Rd w S 1 A n c (rc l)) (hp : p ≤ 2000000000) (hm : m ≤ 2000000000) :
    Calls Tryz.prog 238 #[.slice A n c, .int .i64 p, .int .i64 m] w fun e w' => e = .returned (.bool (endedF l p m)) ∧ w = w' := by
  obtain rfl := hr.rlen
  have hle := hr.le
  have hmx : c ≤ 9223372036854775807 := hr.max
  by_cases h0 : 0 < m
  · have h0i : (m : Int) > 0 := by omega
    by_cases hlt : p + m < l.length
    · have hlti : (p : Int) + (m : Int) < (l.length : Int) := by omega
      obtain ⟨b, o, rfl, hc0⟩ := hr.rune hlt
      have HE : Hid (endedF l p m = (l[p + m] == 59)) := by
        rw [Hid, endedF, decide_eq_true h0, List.getElem?_eq_getElem hlt, Bool.true_and]
        rfl
      clear hr
      generalize l[p + m] = r at hc0 HE
      generalize endedF l p m = q at HE ⊢
      go_enter Tryz.func238, Tryz.ntmps238
      go_wp2
      go_ret
      exact ⟨ret_bool HE.out.symm, rfl⟩
    · have hlti : ¬ (p : Int) + (m : Int) < (l.length : Int) := by omega
      have HE : Hid (endedF l p m = false) := by rw [Hid, endedF, decide_eq_true h0, List.getElem?_eq_none (by omega)]; rfl
      clear hr
      go_enter Tryz.func238, Tryz.ntmps238
      go_wp2
      go_ret
      exact ⟨ret_bool HE.out.symm, rfl⟩
  · have h0i : ¬ (m : Int) > 0 := by omega
    have HE : Hid (endedF l p m = false) := by rw [Hid, endedF, decide_eq_false h0]; rfl
    clear hr
    go_enter Tryz.func238, Tryz.ntmps238
    go_wp2
    go_ret
    exact ⟨ret_bool HE.out.symm, rfl⟩
def tokV (t : Nat × Nat × Bool) (k : Nat) : Value := .agg #[.int .i64 t.1, .int .i64 k, .int .i64 t.2.1, .bool t.2.2]
theorem runMin (p : Int → Bool) (l : List Int) (k j : Nat) : runF p l ((min (k + j) l.length : Nat) : Int) = ((l.drop (k + j)).takeWhile p).length := by
  rw [runF, if_neg (by omega), Int.toNat_natCast]
  by_cases h : k + j ≤ l.length
  · rw [Nat.min_eq_left h]
  · rw [Nat.min_eq_right (by omega), List.drop_eq_nil_of_le (Nat.le_refl _), List.drop_eq_nil_of_le (by omega)]
set_option maxHeartbeats 2000000 in
set_option maxRecDepth 100000 in
theorem Ref_any (S : Nat → Prop) (A : Option Addr) (n c : Nat) (l : List Int) (k : Nat) (w : World) (hr : Rd w S 1 A n c (rc l)) (hk : k < l.length) (hl9 : l.length ≤ 1000000000) :
    Calls Tryz.prog 168 #[.slice A n c, .int .i64 k] w fun e w' => e = .returned (tokV (refF l k) k) ∧ Below w.heap.size w w' := by
  obtain rfl := hr.rlen
  have hle := hr.le
  have hmx : c ≤ 9223372036854775807 := hr.max
  have HR := Lib.hid hr
  have HRN : ∀ W, Below w.heap.size w W → Hid (Calls Tryz.prog 100 #[.slice A l.length c, .int .i64 (min (k + 2) l.length : Nat), .func (.func 236) #[] #[]] W fun e w' => e = .returned (.int .i64 (digN l k)) ∧ Below W.heap.size W w') := fun W h => by
    have := Run_any S A l.length c l (min (k + 2) l.length : Nat) 236 #[] isDig W eg_LDigit (HR.out.below h) (LDigit_ok W)
    rwa [runMin] at this
  have HRX : ∀ W, Below w.heap.size w W → Hid (Calls Tryz.prog 100 #[.slice A l.length c, .int .i64 (min (k + 3) l.length : Nat), .func (.func 237) #[] #[]] W fun e w' => e = .returned (.int .i64 (hexN l k)) ∧ Below W.heap.size W w') := fun W h => by
    have := Run_any S A l.length c l (min (k + 3) l.length : Nat) 237 #[] isHex W eg_LHex (HR.out.below h) (LHex_ok W)
    rwa [runMin] at this
  have hm2 : ∀ ts t W, (Builtin.min_ ts t #[.int .i64 ((k : Int) + 2), .int .i64 (l.length : Int)]).run Tryz.prog W = .ok (.int .i64 (min (k + 2) l.length : Nat)) W := fun ts t W => by
    rw [run_min_int2]
    congr 2
    split <;> omega
  have hm3 : ∀ ts t W, (Builtin.min_ ts t #[.int .i64 ((k : Int) + 3), .int .i64 (l.length : Int)]).run Tryz.prog W = .ok (.int .i64 (min (k + 3) l.length : Nat)) W := fun ts t W => by
    rw [run_min_int2]
    congr 2
    split <;> omega
  have HS1 : ∀ W, Below w.heap.size w W → Hid (Calls Tryz.prog 22 #[.slice A l.length c, .int .i64 k, .string ⟨#[38, 35, 120]⟩] W fun e w' => e = .returned (.bool (startsF l k [38, 35, 120])) ∧ Below W.heap.size W w') :=
    fun W h => Starts_any S A l.length c l k ⟨#[38, 35, 120]⟩ W (HR.out.below h) (by omega) hl9 (by decide)
  have HS2 : ∀ W, Below w.heap.size w W → Hid (Calls Tryz.prog 22 #[.slice A l.length c, .int .i64 k, .string ⟨#[38, 35]⟩] W fun e w' => e = .returned (.bool (startsF l k [38, 35])) ∧ Below W.heap.size W w') :=
    fun W h => Starts_any S A l.length c l k ⟨#[38, 35]⟩ W (HR.out.below h) (by omega) hl9 (by decide)
  have hdn : digN l k ≤ 1000000000 := by have := (List.takeWhile_sublist isDig (l := l.drop (k + 2))).length_le; rw [List.length_drop] at this; unfold digN; omega
  have hxn : hexN l k ≤ 1000000000 := by have := (List.takeWhile_sublist isHex (l := l.drop (k + 3))).length_le; rw [List.length_drop] at this; unfold hexN; omega
  have hln : leadF l (k + 1) ≤ 1000000000 := by
    rw [lead_shift l k 1]
    unfold leadF
    split
    · omega
    · split
      · have := (List.takeWhile_sublist isNameChar (l := (l.drop k).drop 1)).length_le
        simp only [List.length_drop] at this; omega
      · omega
  have HLD : ∀ W, Below w.heap.size w W → Hid (Calls Tryz.prog 102 #[.slice A l.length c, .int .i64 ((k : Int) + 1)] W fun e w' => e = .returned (.int .i64 (leadF l (k + 1))) ∧ Below W.heap.size W w') := fun W h => by
    rw [show ((k : Int) + 1) = ((k + 1 : Nat) : Int) by omega]
    exact NLead_any S A l.length c l (k + 1) W (HR.out.below h) (by omega)
  have HE1 : ∀ W, Below w.heap.size w W → Hid (Calls Tryz.prog 238 #[.slice A l.length c, .int .i64 ((k : Int) + 3), .int .i64 (hexN l k)] W fun e w' => e = .returned (.bool (endedF l (k + 3) (hexN l k))) ∧ W = w') := fun W h => by
    rw [show ((k : Int) + 3) = ((k + 3 : Nat) : Int) by omega]
    exact Ended_any S A l.length c l (k + 3) (hexN l k) W (HR.out.below h) (by omega) (by omega)
  have HE2 : ∀ W, Below w.heap.size w W → Hid (Calls Tryz.prog 238 #[.slice A l.length c, .int .i64 ((k : Int) + 2), .int .i64 (digN l k)] W fun e w' => e = .returned (.bool (endedF l (k + 2) (digN l k))) ∧ W = w') := fun W h => by
    rw [show ((k : Int) + 2) = ((k + 2 : Nat) : Int) by omega]
    exact Ended_any S A l.length c l (k + 2) (digN l k) W (HR.out.below h) (by omega) (by omega)
  have HE3 : ∀ W, Below w.heap.size w W → Hid (Calls Tryz.prog 238 #[.slice A l.length c, .int .i64 ((k : Int) + 1), .int .i64 (leadF l (k + 1))] W fun e w' => e = .returned (.bool (endedF l (k + 1) (leadF l (k + 1)))) ∧ W = w') := fun W h => by
    rw [show ((k : Int) + 1) = ((k + 1 : Nat) : Int) by omega]
    exact Ended_any S A l.length c l (k + 1) (leadF l (k + 1)) W (HR.out.below h) (by omega) (by omega)
  have HREF : Hid (refF l k = if startsF l k [38, 35, 120] && endedF l (k + 3) (hexN l k) then (3, k + 4 + hexN l k, true)
    else if startsF l k [38, 35] && endedF l (k + 2) (digN l k) then (3, k + 3 + digN l k, true)
    else if endedF l (k + 1) (leadF l (k + 1)) then (2, k + 2 + leadF l (k + 1), true) else (11, k + 1, false)) := rfl
  generalize startsF l k [38, 35, 120] = s1 at HS1 HREF
  generalize startsF l k [38, 35] = s2 at HS2 HREF
  generalize endedF l (k + 3) (hexN l k) = e1 at HE1 HREF
  generalize endedF l (k + 2) (digN l k) = e2 at HE2 HREF
  generalize endedF l (k + 1) (leadF l (k + 1)) = e3 at HE3 HREF
  generalize hexN l k = x at HRX HE1 HREF hxn
  generalize digN l k = nd at HRN HE2 HREF hdn
  generalize leadF l (k + 1) = d at HLD HE3 HREF hln
  generalize min (k + 2) l.length = m2 at HRN hm2
  generalize min (k + 3) l.length = m3 at HRX hm3
  clear hr
  go_enter Tryz.func168, Tryz.ntmps168
  go_wp2_with fail
  have HTH0 := Lib.hid (there_lit w #[.int .i64 0, .int .i64 0, .int .i64 0, .bool false] 211)
  have HB0 := Lib.hid (ba w (.cells #[.int .i64 0, .int .i64 0, .int .i64 0, .bool false] 211))
  have HSZ : Hid (w.heap.size + 1 ≤ (w.alloc (.cells #[.int .i64 0, .int .i64 0, .int .i64 0, .bool false] 211)).heap.size) := by simp [Hid]
  generalize w.alloc (.cells #[.int .i64 0, .int .i64 0, .int .i64 0, .bool false] 211) = W0 at HTH0 HB0 HSZ
  refine (HRN _ HB0.out).out.mono ?_
  rintro e w1 ⟨rfl, hb1⟩
  have HB1 := Lib.hid (HB0.out.trans (hb1.mono HB0.out.size))
  have HTH1 := Lib.hid (there_below HTH0.out hb1 (by have := HSZ.out; omega))
  have HLT : Hid (w.heap.size < w1.heap.size) := by have := HSZ.out; have := hb1.size; show _ < _; omega
  clear hb1
  go_wp2_with fail
  refine (HRX _ HB1.out).out.mono ?_
  rintro e w2 ⟨rfl, hb2⟩
  have HB2 := Lib.hid (HB1.out.trans (hb2.mono HB1.out.size))
  have HTH2 := Lib.hid (there_below HTH1.out hb2 HLT.out)
  have HLT := Lib.hid (Nat.lt_of_lt_of_le HLT.out hb2.size)
  clear hb2
  go_wp2_with fail
  refine (HLD _ HB2.out).out.mono ?_
  rintro e w3 ⟨rfl, hb3⟩
  have HB3 := Lib.hid (HB2.out.trans (hb3.mono HB2.out.size))
  have HTH3 := Lib.hid (there_below HTH2.out hb3 HLT.out)
  have HLT := Lib.hid (Nat.lt_of_lt_of_le HLT.out hb3.size)
  clear hb3
  go_wp2_with fail
  refine (HS1 _ HB3.out).out.mono ?_
  rintro e w4 ⟨rfl, hb4⟩
  have HB4 := Lib.hid (HB3.out.trans (hb4.mono HB3.out.size))
  have HTH4 := Lib.hid (there_below HTH3.out hb4 HLT.out)
  have HLT := Lib.hid (Nat.lt_of_lt_of_le HLT.out hb4.size)
  clear hb4 HB0 HB1 HB2 HB3 HTH0 HTH1 HTH2 HTH3 HRN HRX HLD HS1
  cases s1 with
  | true =>
    go_wp2_with fail
    refine (HE1 _ HB4.out).out.mono ?_
    rintro e wx ⟨rfl, rfl⟩
    cases e1 with
    | true =>
      have HV : Hid (tokV (refF l k) k = .agg #[.int .i64 3, .int .i64 k, .int .i64 ((k : Int) + 4 + (x : Int)), .bool true]) := by rw [Hid, HREF.out]; simp [tokV]
      have HL9 := Lib.hid (load_struct (P := Tryz.prog) (T := 211) w4 w.heap.size [.int .i64 3, .int .i64 k, .int .i64 ((k : Int) + 4 + (x : Int)), .bool true] HTH4.out (by kernel_rfl) Tryz.underlying211 rfl)
      have HB9 := Lib.hid (below_setCells2 HB4.out w.heap.size (Nat.le_refl _) [.int .i64 3, .int .i64 k, .int .i64 ((k : Int) + 4 + (x : Int)), .bool true] 0)
      obtain ⟨⟨z0, hz0⟩, hf0⟩ := there_cell HTH4.out 0 (by decide)
      obtain ⟨⟨z1, hz1⟩, hf1⟩ := there_cell HTH4.out 1 (by decide)
      obtain ⟨⟨z2, hz2⟩, hf2⟩ := there_cell HTH4.out 2 (by decide)
      obtain ⟨⟨z3, hz3⟩, hf3⟩ := there_cell HTH4.out 3 (by decide)
      go_wp2
      refine bodyPost_ret (results_cell1 rfl _ rfl HL9.out) rfl ?_
      rw [HV.out]
      exact ⟨rfl, HB9.out⟩
    | false =>
      go_wp2_with fail
      refine (HS2 _ HB4.out).out.mono ?_
      rintro e w5 ⟨rfl, hb5⟩
      have HB5 := Lib.hid (HB4.out.trans (hb5.mono HB4.out.size))
      have HTH5 := Lib.hid (there_below HTH4.out hb5 HLT.out)
      clear hb5
      cases s2 with
      | true =>
        go_wp2_with fail
        refine (HE2 _ HB5.out).out.mono ?_
        rintro e wx ⟨rfl, rfl⟩
        cases e2 with
        | true =>
          have HV : Hid (tokV (refF l k) k = .agg #[.int .i64 3, .int .i64 k, .int .i64 ((k : Int) + 3 + (nd : Int)), .bool true]) := by rw [Hid, HREF.out]; simp [tokV]
          have HL9 := Lib.hid (load_struct (P := Tryz.prog) (T := 211) w5 w.heap.size [.int .i64 3, .int .i64 k, .int .i64 ((k : Int) + 3 + (nd : Int)), .bool true] HTH5.out (by kernel_rfl) Tryz.underlying211 rfl)
          have HB9 := Lib.hid (below_setCells2 HB5.out w.heap.size (Nat.le_refl _) [.int .i64 3, .int .i64 k, .int .i64 ((k : Int) + 3 + (nd : Int)), .bool true] 0)
          obtain ⟨⟨z0, hz0⟩, hf0⟩ := there_cell HTH5.out 0 (by decide)
          obtain ⟨⟨z1, hz1⟩, hf1⟩ := there_cell HTH5.out 1 (by decide)
          obtain ⟨⟨z2, hz2⟩, hf2⟩ := there_cell HTH5.out 2 (by decide)
          obtain ⟨⟨z3, hz3⟩, hf3⟩ := there_cell HTH5.out 3 (by decide)
          go_wp2
          refine bodyPost_ret (results_cell1 rfl _ rfl HL9.out) rfl ?_
          rw [HV.out]
          exact ⟨rfl, HB9.out⟩
        | false =>
          go_wp2_with fail
          refine (HE3 _ HB5.out).out.mono ?_
          rintro e wx ⟨rfl, rfl⟩
          cases e3 with
          | true =>
            have HV : Hid (tokV (refF l k) k = .agg #[.int .i64 2, .int .i64 k, .int .i64 ((k : Int) + 2 + (d : Int)), .bool true]) := by rw [Hid, HREF.out]; simp [tokV]
            have HL9 := Lib.hid (load_struct (P := Tryz.prog) (T := 211) w5 w.heap.size [.int .i64 2, .int .i64 k, .int .i64 ((k : Int) + 2 + (d : Int)), .bool true] HTH5.out (by kernel_rfl) Tryz.underlying211 rfl)
            have HB9 := Lib.hid (below_setCells2 HB5.out w.heap.size (Nat.le_refl _) [.int .i64 2, .int .i64 k, .int .i64 ((k : Int) + 2 + (d : Int)), .bool true] 0)
            obtain ⟨⟨z0, hz0⟩, hf0⟩ := there_cell HTH5.out 0 (by decide)
            obtain ⟨⟨z1, hz1⟩, hf1⟩ := there_cell HTH5.out 1 (by decide)
            obtain ⟨⟨z2, hz2⟩, hf2⟩ := there_cell HTH5.out 2 (by decide)
            obtain ⟨⟨z3, hz3⟩, hf3⟩ := there_cell HTH5.out 3 (by decide)
            go_wp2
            refine bodyPost_ret (results_cell1 rfl _ rfl HL9.out) rfl ?_
            rw [HV.out]
            exact ⟨rfl, HB9.out⟩
          | false =>
            have HV : Hid (tokV (refF l k) k = .agg #[.int .i64 11, .int .i64 k, .int .i64 ((k : Int) + 1), .bool false]) := by rw [Hid, HREF.out]; simp [tokV]
            have HL9 := Lib.hid (load_struct (P := Tryz.prog) (T := 211) w5 w.heap.size [.int .i64 11, .int .i64 k, .int .i64 ((k : Int) + 1), .bool false] HTH5.out (by kernel_rfl) Tryz.underlying211 rfl)
            have HB9 := Lib.hid (below_setCells2 HB5.out w.heap.size (Nat.le_refl _) [.int .i64 11, .int .i64 k, .int .i64 ((k : Int) + 1), .bool false] 0)
            obtain ⟨⟨z0, hz0⟩, hf0⟩ := there_cell HTH5.out 0 (by decide)
            obtain ⟨⟨z1, hz1⟩, hf1⟩ := there_cell HTH5.out 1 (by decide)
            obtain ⟨⟨z2, hz2⟩, hf2⟩ := there_cell HTH5.out 2 (by decide)
            obtain ⟨⟨z3, hz3⟩, hf3⟩ := there_cell HTH5.out 3 (by decide)
            go_wp2
            refine bodyPost_ret (results_cell1 rfl _ rfl HL9.out) rfl ?_
            rw [HV.out]
            exact ⟨rfl, HB9.out⟩
      | false =>
        go_wp2_with fail
        refine (HE3 _ HB5.out).out.mono ?_
        rintro e wx ⟨rfl, rfl⟩
        cases e3 with
        | true =>
          have HV : Hid (tokV (refF l k) k = .agg #[.int .i64 2, .int .i64 k, .int .i64 ((k : Int) + 2 + (d : Int)), .bool true]) := by rw [Hid, HREF.out]; simp [tokV]
          have HL9 := Lib.hid (load_struct (P := Tryz.prog) (T := 211) w5 w.heap.size [.int .i64 2, .int .i64 k, .int .i64 ((k : Int) + 2 + (d : Int)), .bool true] HTH5.out (by kernel_rfl) Tryz.underlying211 rfl)
          have HB9 := Lib.hid (below_setCells2 HB5.out w.heap.size (Nat.le_refl _) [.int .i64 2, .int .i64 k, .int .i64 ((k : Int) + 2 + (d : Int)), .bool true] 0)
          obtain ⟨⟨z0, hz0⟩, hf0⟩ := there_cell HTH5.out 0 (by decide)
          obtain ⟨⟨z1, hz1⟩, hf1⟩ := there_cell HTH5.out 1 (by decide)
          obtain ⟨⟨z2, hz2⟩, hf2⟩ := there_cell HTH5.out 2 (by decide)
          obtain ⟨⟨z3, hz3⟩, hf3⟩ := there_cell HTH5.out 3 (by decide)
          go_wp2
          refine bodyPost_ret (results_cell1 rfl _ rfl HL9.out) rfl ?_
          rw [HV.out]
          exact ⟨rfl, HB9.out⟩
        | false =>
          have HV : Hid (tokV (refF l k) k = .agg #[.int .i64 11, .int .i64 k, .int .i64 ((k : Int) + 1), .bool false]) := by rw [Hid, HREF.out]; simp [tokV]
          have HL9 := Lib.hid (load_struct (P := Tryz.prog) (T := 211) w5 w.heap.size [.int .i64 11, .int .i64 k, .int .i64 ((k : Int) + 1), .bool false] HTH5.out (by kernel_rfl) Tryz.underlying211 rfl)
          have HB9 := Lib.hid (below_setCells2 HB5.out w.heap.size (Nat.le_refl _) [.int .i64 11, .int .i64 k, .int .i64 ((k : Int) + 1), .bool false] 0)
          obtain ⟨⟨z0, hz0⟩, hf0⟩ := there_cell HTH5.out 0 (by decide)
          obtain ⟨⟨z1, hz1⟩, hf1⟩ := there_cell HTH5.out 1 (by decide)
          obtain ⟨⟨z2, hz2⟩, hf2⟩ := there_cell HTH5.out 2 (by decide)
          obtain ⟨⟨z3, hz3⟩, hf3⟩ := there_cell HTH5.out 3 (by decide)
          go_wp2
          refine bodyPost_ret (results_cell1 rfl _ rfl HL9.out) rfl ?_
          rw [HV.out]
          exact ⟨rfl, HB9.out⟩
  | false =>
    go_wp2_with fail
    refine (HS2 _ HB4.out).out.mono ?_
    rintro e w5 ⟨rfl, hb5⟩
    have HB5 := Lib.hid (HB4.out.trans (hb5.mono HB4.out.size))
    have HTH5 := Lib.hid (there_below HTH4.out hb5 HLT.out)
    clear hb5
    cases s2 with
    | true =>
      go_wp2_with fail
      refine (HE2 _ HB5.out).out.mono ?_
      rintro e wx ⟨rfl, rfl⟩
      cases e2 with
      | true =>
        have HV : Hid (tokV (refF l k) k = .agg #[.int .i64 3, .int .i64 k, .int .i64 ((k : Int) + 3 + (nd : Int)), .bool true]) := by rw [Hid, HREF.out]; simp [tokV]
        have HL9 := Lib.hid (load_struct (P := Tryz.prog) (T := 211) w5 w.heap.size [.int .i64 3, .int .i64 k, .int .i64 ((k : Int) + 3 + (nd : Int)), .bool true] HTH5.out (by kernel_rfl) Tryz.underlying211 rfl)
        have HB9 := Lib.hid (below_setCells2 HB5.out w.heap.size (Nat.le_refl _) [.int .i64 3, .int .i64 k, .int .i64 ((k : Int) + 3 + (nd : Int)), .bool true] 0)
        obtain ⟨⟨z0, hz0⟩, hf0⟩ := there_cell HTH5.out 0 (by decide)
        obtain ⟨⟨z1, hz1⟩, hf1⟩ := there_cell HTH5.out 1 (by decide)
        obtain ⟨⟨z2, hz2⟩, hf2⟩ := there_cell HTH5.out 2 (by decide)
        obtain ⟨⟨z3, hz3⟩, hf3⟩ := there_cell HTH5.out 3 (by decide)
        go_wp2
        refine bodyPost_ret (results_cell1 rfl _ rfl HL9.out) rfl ?_
        rw [HV.out]
        exact ⟨rfl, HB9.out⟩
      | false =>
        go_wp2_with fail
        refine (HE3 _ HB5.out).out.mono ?_
        rintro e wx ⟨rfl, rfl⟩
        cases e3 with
        | true =>
          have HV : Hid (tokV (refF l k) k = .agg #[.int .i64 2, .int .i64 k, .int .i64 ((k : Int) + 2 + (d : Int)), .bool true]) := by rw [Hid, HREF.out]; simp [tokV]
          have HL9 := Lib.hid (load_struct (P := Tryz.prog) (T := 211) w5 w.heap.size [.int .i64 2, .int .i64 k, .int .i64 ((k : Int) + 2 + (d : Int)), .bool true] HTH5.out (by kernel_rfl) Tryz.underlying211 rfl)
          have HB9 := Lib.hid (below_setCells2 HB5.out w.heap.size (Nat.le_refl _) [.int .i64 2, .int .i64 k, .int .i64 ((k : Int) + 2 + (d : Int)), .bool true] 0)
          obtain ⟨⟨z0, hz0⟩, hf0⟩ := there_cell HTH5.out 0 (by decide)
          obtain ⟨⟨z1, hz1⟩, hf1⟩ := there_cell HTH5.out 1 (by decide)
          obtain ⟨⟨z2, hz2⟩, hf2⟩ := there_cell HTH5.out 2 (by decide)
          obtain ⟨⟨z3, hz3⟩, hf3⟩ := there_cell HTH5.out 3 (by decide)
          go_wp2
          refine bodyPost_ret (results_cell1 rfl _ rfl HL9.out) rfl ?_
          rw [HV.out]
          exact ⟨rfl, HB9.out⟩
        | false =>
          have HV : Hid (tokV (refF l k) k = .agg #[.int .i64 11, .int .i64 k, .int .i64 ((k : Int) + 1), .bool false]) := by rw [Hid, HREF.out]; simp [tokV]
          have HL9 := Lib.hid (load_struct (P := Tryz.prog) (T := 211) w5 w.heap.size [.int .i64 11, .int .i64 k, .int .i64 ((k : Int) + 1), .bool false] HTH5.out (by kernel_rfl) Tryz.underlying211 rfl)
          have HB9 := Lib.hid (below_setCells2 HB5.out w.heap.size (Nat.le_refl _) [.int .i64 11, .int .i64 k, .int .i64 ((k : Int) + 1), .bool false] 0)
          obtain ⟨⟨z0, hz0⟩, hf0⟩ := there_cell HTH5.out 0 (by decide)
          obtain ⟨⟨z1, hz1⟩, hf1⟩ := there_cell HTH5.out 1 (by decide)
          obtain ⟨⟨z2, hz2⟩, hf2⟩ := there_cell HTH5.out 2 (by decide)
          obtain ⟨⟨z3, hz3⟩, hf3⟩ := there_cell HTH5.out 3 (by decide)
          go_wp2
          refine bodyPost_ret (results_cell1 rfl _ rfl HL9.out) rfl ?_
          rw [HV.out]
          exact ⟨rfl, HB9.out⟩
    | false =>
      go_wp2_with fail
      refine (HE3 _ HB5.out).out.mono ?_
      rintro e wx ⟨rfl, rfl⟩
      cases e3 with
      | true =>
        have HV : Hid (tokV (refF l k) k = .agg #[.int .i64 2, .int .i64 k, .int .i64 ((k : Int) + 2 + (d : Int)), .bool true]) := by rw [Hid, HREF.out]; simp [tokV]
        have HL9 := Lib.hid (load_struct (P := Tryz.prog) (T := 211) w5 w.heap.size [.int .i64 2, .int .i64 k, .int .i64 ((k : Int) + 2 + (d : Int)), .bool true] HTH5.out (by kernel_rfl) Tryz.underlying211 rfl)
        have HB9 := Lib.hid (below_setCells2 HB5.out w.heap.size (Nat.le_refl _) [.int .i64 2, .int .i64 k, .int .i64 ((k : Int) + 2 + (d : Int)), .bool true] 0)
        obtain ⟨⟨z0, hz0⟩, hf0⟩ := there_cell HTH5.out 0 (by decide)
        obtain ⟨⟨z1, hz1⟩, hf1⟩ := there_cell HTH5.out 1 (by decide)
        obtain ⟨⟨z2, hz2⟩, hf2⟩ := there_cell HTH5.out 2 (by decide)
        obtain ⟨⟨z3, hz3⟩, hf3⟩ := there_cell HTH5.out 3 (by decide)
        go_wp2
        refine bodyPost_ret (results_cell1 rfl _ rfl HL9.out) rfl ?_
        rw [HV.out]
        exact ⟨rfl, HB9.out⟩
      | false =>
        have HV : Hid (tokV (refF l k) k = .agg #[.int .i64 11, .int .i64 k, .int .i64 ((k : Int) + 1), .bool false]) := by rw [Hid, HREF.out]; simp [tokV]
        have HL9 := Lib.hid (load_struct (P := Tryz.prog) (T := 211) w5 w.heap.size [.int .i64 11, .int .i64 k, .int .i64 ((k : Int) + 1), .bool false] HTH5.out (by kernel_rfl) Tryz.underlying211 rfl)
        have HB9 := Lib.hid (below_setCells2 HB5.out w.heap.size (Nat.le_refl _) [.int .i64 11, .int .i64 k, .int .i64 ((k : Int) + 1), .bool false] 0)
        obtain ⟨⟨z0, hz0⟩, hf0⟩ := there_cell HTH5.out 0 (by decide)
        obtain ⟨⟨z1, hz1⟩, hf1⟩ := there_cell HTH5.out 1 (by decide)
        obtain ⟨⟨z2, hz2⟩, hf2⟩ := there_cell HTH5.out 2 (by decide)
        obtain ⟨⟨z3, hz3⟩, hf3⟩ := there_cell HTH5.out 3 (by decide)
        go_wp2
        refine bodyPost_ret (results_cell1 rfl _ rfl HL9.out) rfl ?_
        rw [HV.out]
        exact ⟨rfl, HB9.out⟩
end Go.Proofs.YtcmjijpofkoogaaGreat
namespace Go.Proofs.YtcmjijpofkoogaaGreat
open Go.RowKit Go.Lib
def isQuo (r : Int) : Bool := r == 34 || r == 39
def quoF (l : List Int) (q : Int) (k : Nat) : Nat × Bool := if h : k < l.length then (if l[k] = q then (k + 1, true) else quoF l q (k + 1)) else (l.length, false)
termination_by l.length - k
theorem quoF_hit (l : List Int) (q : Int) (k : Nat) (h : k < l.length) (hq : l[k] = q) : quoF l q k = (k + 1, true) := by rw [quoF, dif_pos h, if_pos hq]
theorem quoF_miss (l : List Int) (q : Int) (k : Nat) (h : k < l.length) (hq : l[k] ≠ q) : quoF l q k = quoF l q (k + 1) := by rw [quoF, dif_pos h, if_neg hq]
theorem quoF_end (l : List Int) (q : Int) (k : Nat) (h : ¬ k < l.length) : quoF l q k = (l.length, false) := by rw [quoF, dif_neg h]
theorem quoF_range (l : List Int) (q : Int) : ∀ (n k : Nat), l.length - k ≤ n → k ≤ l.length → k ≤ (quoF l q k).1 ∧ (quoF l q k).1 ≤ l.length ∧ (k < l.length → k < (quoF l q k).1 ∨ (quoF l q k).1 = l.length) := by
  intro n
  induction n with
  | zero =>
    intro k h hk
    rw [quoF_end l q k (by omega)]
    simp only; omega
  | succ n ih =>
    intro k h hk
    by_cases hlt : k < l.length
    · by_cases hq : l[k] = q
      · rw [quoF_hit l q k hlt hq]; simp only; omega
      · rw [quoF_miss l q k hlt hq]
        have := ih (k + 1) (by omega) (by omega)
        omega
    · rw [quoF_end l q k hlt]; simp only; omega
def quotedF (l : List Int) (k : Nat) : Nat × Bool := quoF l (l.getD k 0) (k + 1)
theorem quotedF_gt (l : List Int) (k : Nat) (h : k < l.length) : k < (quotedF l k).1 ∧ (quotedF l k).1 ≤ l.length := by
  have := quoF_range l (l.getD k 0) l.length (k + 1) (by omega) (by omega)
  unfold quotedF; omega
def angleF (l : List Int) (stops : Bool) (k : Nat) : Nat × Bool :=
  if h : k < l.length then
    (if isQuo l[k] then angleF l stops (quotedF l k).1 else if l[k] = 62 then (k, true) else if l[k] = 60 ∧ stops = true then (k, false) else angleF l stops (k + 1))
  else (l.length, false)
termination_by l.length - k
decreasing_by
  · have := quotedF_gt l k (by assumption); omega
  · omega
theorem angleF_end (l : List Int) (s : Bool) (k : Nat) (h : ¬ k < l.length) : angleF l s k = (l.length, false) := by rw [angleF, dif_neg h]
theorem angleF_quo (l : List Int) (s : Bool) (k : Nat) (h : k < l.length) (hq : isQuo l[k] = true) : angleF l s k = angleF l s (quotedF l k).1 := by
  conv => lhs; rw [angleF]
  rw [dif_pos h, if_pos hq]
theorem angleF_gt (l : List Int) (s : Bool) (k : Nat) (h : k < l.length) (hq : l[k] = 62) : angleF l s k = (k, true) := by
  rw [angleF, dif_pos h, if_neg (by rw [hq]; decide), if_pos hq]
theorem angleF_lt (l : List Int) (k : Nat) (h : k < l.length) (hq : l[k] = 60) : angleF l true k = (k, false) := by
  rw [angleF, dif_pos h, if_neg (by rw [hq]; decide), if_neg (by rw [hq]; decide), if_pos ⟨hq, rfl⟩]
theorem angleF_next (l : List Int) (s : Bool) (k : Nat) (h : k < l.length) (h1 : isQuo l[k] = false) (h2 : l[k] ≠ 62) (h3 : ¬ (l[k] = 60 ∧ s = true)) : angleF l s k = angleF l s (k + 1) := by
  conv => lhs; rw [angleF]
  rw [dif_pos h, if_neg (by simp [h1]), if_neg h2, if_neg h3]
theorem angleF_range (l : List Int) (s : Bool) : ∀ (n k : Nat), l.length - k ≤ n → k ≤ l.length → k ≤ (angleF l s k).1 ∧ (angleF l s k).1 ≤ l.length ∧ ((angleF l s k).2 = true → (angleF l s k).1 < l.length) := by
  intro n
  induction n with
  | zero =>
    intro k h hk
    rw [angleF_end l s k (by omega)]
    simp; omega
  | succ n ih =>
    intro k h hk
    by_cases hlt : k < l.length
    · cases hq : isQuo l[k] with
      | true =>
        have := quotedF_gt l k hlt
        have := ih (quotedF l k).1 (by omega) (by omega)
        rw [angleF_quo l s k hlt hq]; exact ⟨by omega, by omega, this.2.2⟩
      | false =>
        by_cases h2 : l[k] = 62
        · rw [angleF_gt l s k hlt h2]; simp; omega
        · by_cases h3 : l[k] = 60 ∧ s = true
          · obtain ⟨h3, rfl⟩ := h3
            rw [angleF_lt l k hlt h3]; simp; omega
          · have := ih (k + 1) (by omega) (by omega)
            rw [angleF_next l s k hlt hq h2 h3]; exact ⟨by omega, by omega, this.2.2⟩
    · rw [angleF_end l s k hlt]
      simp; omega
set_option maxHeartbeats 400000 in
set_option maxRecDepth 100000 in
theorem LQuote_any (r : Int) (w : World) : Calls Tryz.prog 286 #[.int .i32 r] w fun e w' => e = .returned (.bool (isQuo r)) ∧ w = w' := by
  by_cases h : r = 34
  · subst h
    go_enter Tryz.func286, Tryz.ntmps286
    go_wp2
    go_ret
    exact ⟨rfl, rfl⟩
  · have hb : (r == 34) = false := by simpa using h
    have HE : Hid (isQuo r = (r == 39)) := by rw [Hid, isQuo, hb, Bool.false_or]
    clear h
    go_enter Tryz.func286, Tryz.ntmps286
    go_wp2
    go_ret
    exact ⟨ret_bool HE.out.symm, rfl⟩
set_option maxHeartbeats 1000000 in
set_option maxRecDepth 100000 in
theorem Quoted_any (S : Nat → Prop) (A : Option Addr) (n c : Nat) (l : List Int) (k : Nat) (w : World) (hr : Rd w S 1 A n c (rc l)) (hk : k < l.length) (hl9 : l.length ≤ 1000000000) :
    Calls Tryz.prog 287 #[.slice A n c, .int .i64 k] w fun e w' => e = .returned (.tuple #[.int .i64 (quotedF l k).1, .bool (quotedF l k).2]) ∧ Below w.heap.size w w' := by
  obtain rfl := hr.rlen
  have hle := hr.le
  have hmx : c ≤ 9223372036854775807 := hr.max
  have HR := Lib.hid hr
  have hki : (k : Int) < (l.length : Int) := by omega
  have HT : Hid (quotedF l k = quoF l l[k] (k + 1)) := by rw [Hid, quotedF, getD_at hk]
  have HQ := fun W (h : Below w.heap.size w W) => Lib.hid ((HR.out.below h).rune hk)
  clear hr
  generalize quotedF l k = t at HT ⊢
  generalize l[k] = q at HT HQ
  go_enter Tryz.func287, Tryz.ntmps287
  go_wp2
  go_loopw [6] (fun i wr => ∃ j : Nat, k + 1 ≤ j ∧ j ≤ l.length ∧ i = .int .i64 j ∧ Hid (t = quoF l q j) ∧ Hid (Below w.heap.size w wr)) (fun i _ => l.length - (intOf i).toNat)
  case atStart => exact ⟨k + 1, Nat.le_refl _, by omega, by go_num, HT.out, Below.refl _ _⟩
  case round =>
    obtain ⟨j, hj1, hj2, rfl, HJ, HB⟩ := hrel
    by_cases hlt : j < l.length
    · have hji : (j : Int) < (l.length : Int) := by omega
      obtain ⟨b, o, rfl, hc0⟩ := (HR.out.below HB.out).rune hlt
      obtain ⟨b', o', hA, hc1⟩ := (HQ _ HB.out).out
      injection hA with hA
      injection hA with e1 e2
      subst e1 e2
      have HH := Lib.hid (quoF_hit l q j hlt)
      have HM := Lib.hid (quoF_miss l q j hlt)
      generalize l[j] = r at hc0 HH HM
      by_cases hq : r = q
      · have HE := Lib.hid (HJ.out.trans (HH.out hq))
        have hb : (r == q) = true := by simpa using hq
        clear HH HM HJ hq
        go_wp2
        go_quiet (fail)
        go_wp2
        go_ret2
        rw [HE.out]
        exact ⟨rfl, below_drewN HB.out _⟩
      · have HE := Lib.hid (HJ.out.trans (HM.out hq))
        have hb : (r == q) = false := by simpa using hq
        clear HH HM HJ hq
        go_wp2
        go_quiet (fail)
        go_wp2
        go_roundw
        case rel => exact ⟨j + 1, by omega, by omega, by go_num, HE.out, below_drewN HB.out _⟩
        case measure => simp [intOf]; omega
    · have hji : ¬ (j : Int) < (l.length : Int) := by omega
      have HE := Lib.hid (HJ.out.trans (quoF_end l q j hlt))
      clear HJ
      go_wp2
      go_ret2
      rw [HE.out]
      exact ⟨rfl, HB.out⟩
set_option maxHeartbeats 2000000 in
set_option maxRecDepth 100000 in
theorem Angle_any (S : Nat → Prop) (A : Option Addr) (n c : Nat) (l : List Int) (k : Nat) (s : Bool) (w : World) (hr : Rd w S 1 A n c (rc l)) (hk : k ≤ l.length) (hl9 : l.length ≤ 1000000000) :
    Calls Tryz.prog 289 #[.slice A n c, .int .i64 k, .bool s] w fun e w' => e = .returned (.tuple #[.int .i64 (angleF l s k).1, .bool (angleF l s k).2]) ∧ Below w.heap.size w w' := by
  obtain rfl := hr.rlen
  have hle := hr.le
  have hmx : c ≤ 9223372036854775807 := hr.max
  have HR := Lib.hid hr
  clear hr
  obtain ⟨t, ht⟩ : ∃ t, t = angleF l s k := ⟨_, rfl⟩
  rw [← ht]
  have HT := Lib.hid ht
  clear ht
  go_enter Tryz.func289, Tryz.ntmps289
  go_wp2
  go_loopw [1] (fun i wr => ∃ j : Nat, j ≤ l.length ∧ i = .int .i64 j ∧ Hid (t = angleF l s j) ∧ Hid (Below w.heap.size w wr)) (fun i _ => l.length - (intOf i).toNat)
  case atStart => exact ⟨k, hk, rfl, HT.out, Below.refl _ _⟩
  case round =>
    obtain ⟨j, hj, rfl, HJ, HB⟩ := hrel
    by_cases hlt : j < l.length
    · have hji : (j : Int) < (l.length : Int) := by omega
      obtain ⟨b, o, rfl, hc0⟩ := (HR.out.below HB.out).rune hlt
      have HQT := Lib.hid (LQuote_any l[j])
      have HQD := Lib.hid (Quoted_any S _ l.length c l j _ (HR.out.below HB.out) hlt hl9)
      obtain ⟨hg1, hg2⟩ := quotedF_gt l j hlt
      have H1 := Lib.hid (angleF_quo l s j hlt)
      have H2 := Lib.hid (angleF_gt l s j hlt)
      have H4 := Lib.hid (angleF_next l s j hlt)
      have H3 := Lib.hid (show s = true → l[j] = 60 → angleF l s j = (j, false) from fun h h2 => by subst h; exact angleF_lt l j hlt h2)
      generalize l[j] = r at hc0 HQT H1 H2 H3 H4
      cases hq : isQuo r with
      | true =>
        have HE := Lib.hid (HJ.out.trans (H1.out hq))
        have HQT2 := fun W => Lib.hid (HQT.out W)
        rw [hq] at HQT2
        clear H1 H2 H3 H4 HJ hq HQT
        generalize (quotedF l j).1 = nx at HE HQD hg1 hg2
        generalize (quotedF l j).2 = nb at HQD
        go_wp2_with fail
        refine (HQT2 _).out.mono ?_
        rintro e wx ⟨rfl, rfl⟩
        go_wp2_with fail
        refine HQD.out.mono ?_
        rintro e w2 ⟨rfl, hb2⟩
        have HB2 := Lib.hid (HB.out.trans (hb2.mono HB.out.size))
        clear hb2
        go_wp2
        go_roundw
        case rel => exact ⟨nx, by omega, rfl, HE.out, HB2.out⟩
        case measure => simp [intOf]; omega
      | false =>
        have HQT2 := fun W => Lib.hid (HQT.out W)
        rw [hq] at HQT2
        clear HQD hg1 hg2 HQT
        by_cases h62 : r = 62
        · have HE := Lib.hid (HJ.out.trans (H2.out h62))
          subst h62
          clear H1 H2 H3 H4 HJ hq
          go_wp2_with fail
          refine (HQT2 _).out.mono ?_
          rintro e wx ⟨rfl, rfl⟩
          go_wp2
          go_ret2
          rw [HE.out]
          exact ⟨rfl, HB.out⟩
        · have h62b : (r == 62) = false := by simpa using h62
          by_cases h60 : r = 60
          · subst h60
            cases s with
            | true =>
              have HE := Lib.hid (HJ.out.trans (H3.out rfl rfl))
              clear H1 H2 H3 H4 HJ hq h62
              go_wp2_with fail
              refine (HQT2 _).out.mono ?_
              rintro e wx ⟨rfl, rfl⟩
              go_wp2
              go_ret2
              rw [HE.out]
              exact ⟨rfl, HB.out⟩
            | false =>
              have HE := Lib.hid (HJ.out.trans (H4.out hq h62 (by simp)))
              clear H1 H2 H3 H4 HJ hq h62
              go_wp2_with fail
              refine (HQT2 _).out.mono ?_
              rintro e wx ⟨rfl, rfl⟩
              go_wp2
              go_roundw
              case rel => exact ⟨j + 1, by omega, by go_num, HE.out, HB.out⟩
              case measure => simp [intOf]; omega
          · have h60b : (r == 60) = false := by simpa using h60
            have HE := Lib.hid (HJ.out.trans (H4.out hq h62 (fun h => h60 h.1)))
            clear H1 H2 H3 H4 HJ hq h62 h60
            go_wp2_with fail
            refine (HQT2 _).out.mono ?_
            rintro e wx ⟨rfl, rfl⟩
            go_wp2
            go_roundw
            case rel => exact ⟨j + 1, by omega, by go_num, HE.out, HB.out⟩
            case measure => simp [intOf]; omega
    · have hji : ¬ (j : Int) < (l.length : Int) := by omega
      have HE := Lib.hid (HJ.out.trans (angleF_end l s j hlt))
      clear HJ
      go_wp2
      go_ret2
      rw [HE.out]
      exact ⟨rfl, HB.out⟩
end Go.Proofs.YtcmjijpofkoogaaGreat
namespace Go.Proofs.YtcmjijpofkoogaaGreat
open Go.RowKit Go.Lib
def upToF (l : List Int) (kd k skip : Nat) (bs : List UInt8) : Nat × Nat × Bool := match findF l (min (k + skip) l.length) l.length bs with
  | none => (kd, l.length, false)
  | some j => (kd, j + bs.length, true)
def endGo (l : List Int) (k : Nat) : Nat × Bool := if h : k < l.length then (if l[k] = 62 then (k + 1, true) else if l[k] = 60 then (k, false) else endGo l (k + 1)) else (l.length, false)
termination_by l.length - k
def endTF (l : List Int) (k : Nat) : Nat × Nat × Bool := (10, (endGo l (k + 2)).1, (endGo l (k + 2)).2)
def startTF (l : List Int) (k : Nat) : Nat × Nat × Bool :=
  if (angleF l true (k + 1)).2 = false then (8, (angleF l true (k + 1)).1, false)
  else if l[(angleF l true (k + 1)).1 - 1]? = some 47 then (9, (angleF l true (k + 1)).1 + 1, true) else (8, (angleF l true (k + 1)).1 + 1, true)
theorem endGo_gt (l : List Int) (k : Nat) (h : k < l.length) (hq : l[k] = 62) : endGo l k = (k + 1, true) := by rw [endGo, dif_pos h, if_pos hq]
theorem endGo_lt (l : List Int) (k : Nat) (h : k < l.length) (hq : l[k] = 60) : endGo l k = (k, false) := by rw [endGo, dif_pos h, if_neg (by rw [hq]; decide), if_pos hq]
theorem endGo_next (l : List Int) (k : Nat) (h : k < l.length) (h1 : l[k] ≠ 62) (h2 : l[k] ≠ 60) : endGo l k = endGo l (k + 1) := by rw [endGo, dif_pos h, if_neg h1, if_neg h2]
theorem endGo_end (l : List Int) (k : Nat) (h : ¬ k < l.length) : endGo l k = (l.length, false) := by rw [endGo, dif_neg h]
set_option maxHeartbeats 2000000 in
set_option maxRecDepth 100000 in
theorem UpTo_any (S : Nat → Prop) (A : Option Addr) (n c : Nat) (l : List Int) (kd k skip : Nat) (s : ByteArray) (w : World) (hr : Rd w S 1 A n c (rc l)) (hk : k ≤ l.length) (hsk : skip ≤ 1000) (hl9 : l.length ≤ 1000000000) (hs9 : s.size ≤ 1000) :
    Calls Tryz.prog 232 #[.slice A n c, .int .i64 kd, .int .i64 k, .int .i64 skip, .string s] w fun e w' => e = .returned (tokV (upToF l kd k skip s.data.toList) k) ∧ Below w.heap.size w w' := by
  obtain rfl := hr.rlen
  have hle := hr.le
  have hmx : c ≤ 9223372036854775807 := hr.max
  have HR := Lib.hid hr
  clear hr
  have hm : ∀ ts t W, (Builtin.min_ ts t #[.int .i64 ((k : Int) + (skip : Int)), .int .i64 (l.length : Int)]).run Tryz.prog W = .ok (.int .i64 (min (k + skip) l.length : Nat)) W := fun ts t W => by
    rw [run_min_int2]
    congr 2
    split <;> omega
  have HF := fun W (h : Below w.heap.size w W) => Lib.hid (LFind_any S A l.length c l (min (k + skip) l.length) l.length s W (HR.out.below h) (by omega) (Nat.le_refl _) hl9 (by omega))
  have HT : Hid (upToF l kd k skip s.data.toList = match findF l (min (k + skip) l.length) l.length s.data.toList with
    | none => (kd, l.length, false)
    | some j => (kd, j + s.data.toList.length, true)) := rfl
  have hfl : ∀ j, findF l (min (k + skip) l.length) l.length s.data.toList = some j → j ≤ l.length := fun j h => by
    rw [findF, List.find?_range'_eq_some] at h
    have := List.mem_range'_1.1 h.2.1
    omega
  have HSL := Lib.hid (show s.data.toList.length = s.size by simp)
  generalize upToF l kd k skip s.data.toList = t at HT ⊢
  generalize findF l (min (k + skip) l.length) l.length s.data.toList = q at HF HT hfl
  generalize min (k + skip) l.length = m2 at hm HF
  cases q with
  | none =>
    have HE : Hid (t = (kd, l.length, false)) := HT.out
    clear HT hfl
    go_enter Tryz.func232, Tryz.ntmps232
    go_wp2_with fail
    have HTH0 := Lib.hid (there_lit w #[.int .i64 0, .int .i64 0, .int .i64 0, .bool false] 211)
    have HB0 := Lib.hid (ba w (.cells #[.int .i64 0, .int .i64 0, .int .i64 0, .bool false] 211))
    have HSZ : Hid (w.heap.size < (w.alloc (.cells #[.int .i64 0, .int .i64 0, .int .i64 0, .bool false] 211)).heap.size) := by simp [Hid]
    generalize w.alloc (.cells #[.int .i64 0, .int .i64 0, .int .i64 0, .bool false] 211) = W0 at HTH0 HB0 HSZ
    refine (HF _ HB0.out).out.mono ?_
    rintro e w1 ⟨rfl, hb1⟩
    have HB1 := Lib.hid (HB0.out.trans (hb1.mono HB0.out.size))
    have HTH1 : Hid (w1.there w.heap.size 0 4) := there_below HTH0.out hb1 HSZ.out
    clear hb1 HTH0 HSZ
    have HL9 := Lib.hid (load_struct (P := Tryz.prog) (T := 211) w1 w.heap.size [.int .i64 kd, .int .i64 k, .int .i64 (l.length), .bool false] HTH1.out (by kernel_rfl) Tryz.underlying211 rfl)
    have HB9 := Lib.hid (below_setCells2 HB1.out w.heap.size (Nat.le_refl _) [.int .i64 kd, .int .i64 k, .int .i64 (l.length), .bool false] 0)
    obtain ⟨⟨z0, hz0⟩, hf0⟩ := there_cell HTH1.out 0 (by decide)
    obtain ⟨⟨z1, hz1⟩, hf1⟩ := there_cell HTH1.out 1 (by decide)
    obtain ⟨⟨z2, hz2⟩, hf2⟩ := there_cell HTH1.out 2 (by decide)
    obtain ⟨⟨z3, hz3⟩, hf3⟩ := there_cell HTH1.out 3 (by decide)
    go_wp2
    refine bodyPost_ret (results_cell1 rfl _ rfl HL9.out) rfl ?_
    rw [HE.out]
    exact ⟨by simp [tokV], HB9.out⟩
  | some j =>
    have HE : Hid (t = (kd, j + s.size, true)) := by rw [Hid, ← HSL.out]; exact HT.out
    have hfl := hfl j rfl
    clear HT
    go_enter Tryz.func232, Tryz.ntmps232
    go_wp2_with fail
    have HTH0 := Lib.hid (there_lit w #[.int .i64 0, .int .i64 0, .int .i64 0, .bool false] 211)
    have HB0 := Lib.hid (ba w (.cells #[.int .i64 0, .int .i64 0, .int .i64 0, .bool false] 211))
    have HSZ : Hid (w.heap.size < (w.alloc (.cells #[.int .i64 0, .int .i64 0, .int .i64 0, .bool false] 211)).heap.size) := by simp [Hid]
    generalize w.alloc (.cells #[.int .i64 0, .int .i64 0, .int .i64 0, .bool false] 211) = W0 at HTH0 HB0 HSZ
    refine (HF _ HB0.out).out.mono ?_
    rintro e w1 ⟨rfl, hb1⟩
    have HB1 := Lib.hid (HB0.out.trans (hb1.mono HB0.out.size))
    have HTH1 : Hid (w1.there w.heap.size 0 4) := there_below HTH0.out hb1 HSZ.out
    clear hb1 HTH0 HSZ
    have HL9 := Lib.hid (load_struct (P := Tryz.prog) (T := 211) w1 w.heap.size [.int .i64 kd, .int .i64 k, .int .i64 ((j : Int) + (s.size : Int)), .bool true] HTH1.out (by kernel_rfl) Tryz.underlying211 rfl)
    have HB9 := Lib.hid (below_setCells2 HB1.out w.heap.size (Nat.le_refl _) [.int .i64 kd, .int .i64 k, .int .i64 ((j : Int) + (s.size : Int)), .bool true] 0)
    obtain ⟨⟨z0, hz0⟩, hf0⟩ := there_cell HTH1.out 0 (by decide)
    obtain ⟨⟨z1, hz1⟩, hf1⟩ := there_cell HTH1.out 1 (by decide)
    obtain ⟨⟨z2, hz2⟩, hf2⟩ := there_cell HTH1.out 2 (by decide)
    obtain ⟨⟨z3, hz3⟩, hf3⟩ := there_cell HTH1.out 3 (by decide)
    go_wp2
    refine bodyPost_ret (results_cell1 rfl _ rfl HL9.out) rfl ?_
    rw [HE.out]
    exact ⟨by simp [tokV], HB9.out⟩
set_option maxHeartbeats 2000000 in
set_option maxRecDepth 100000 in
theorem EndT_any (S : Nat → Prop) (A : Option Addr) (n c : Nat) (l : List Int) (k : Nat) (w : World) (hr : Rd w S 1 A n c (rc l)) (hk : k + 2 ≤ l.length) (hl9 : l.length ≤ 1000000000) :
    Calls Tryz.prog 234 #[.slice A n c, .int .i64 k] w fun e w' => e = .returned (tokV (endTF l k) k) ∧ Below w.heap.size w w' := by
  obtain rfl := hr.rlen
  have hle := hr.le
  have hmx : c ≤ 9223372036854775807 := hr.max
  have HR := Lib.hid hr
  clear hr
  obtain ⟨t, ht⟩ : ∃ t, t = endGo l (k + 2) := ⟨_, rfl⟩
  have HT := Lib.hid ht
  have HTT : Hid (endTF l k = (10, t.1, t.2)) := by rw [Hid, ht]; rfl
  clear ht
  go_enter Tryz.func234, Tryz.ntmps234
  go_wp2
  have HTH0 := Lib.hid (there_lit w #[.int .i64 0, .int .i64 0, .int .i64 0, .bool false] 211)
  have HB0 := Lib.hid (ba w (.cells #[.int .i64 0, .int .i64 0, .int .i64 0, .bool false] 211))
  have HSZ : Hid (w.heap.size < (w.alloc (.cells #[.int .i64 0, .int .i64 0, .int .i64 0, .bool false] 211)).heap.size) := by simp [Hid]
  generalize w.alloc (.cells #[.int .i64 0, .int .i64 0, .int .i64 0, .bool false] 211) = W0 at HTH0 HB0 HSZ
  have HR0 := Lib.hid (HR.out.below HB0.out)
  have HTH0 : Hid (W0.there w.heap.size 0 4) := HTH0.out
  go_loopw [5] (fun i wr => wr = W0 ∧ ∃ j : Nat, k + 2 ≤ j ∧ j ≤ l.length ∧ i = .int .i64 j ∧ Hid (t = endGo l j)) (fun i _ => l.length - (intOf i).toNat)
  case atStart => exact ⟨rfl, k + 2, Nat.le_refl _, by omega, by go_num, HT.out⟩
  case round =>
    obtain ⟨rfl, j, hj1, hj2, rfl, HJ⟩ := hrel
    by_cases hlt : j < l.length
    · have hji : (j : Int) < (l.length : Int) := by omega
      obtain ⟨b, o, rfl, hc0⟩ := HR0.out.rune hlt
      have H1 := Lib.hid (endGo_gt l j hlt)
      have H2 := Lib.hid (endGo_lt l j hlt)
      have H3 := Lib.hid (endGo_next l j hlt)
      generalize l[j] = r at hc0 H1 H2 H3
      by_cases h62 : r = 62
      · have HE : Hid (endTF l k = (10, j + 1, true)) := by rw [Hid, HTT.out, HJ.out.trans (H1.out h62)]
        subst h62
        clear H1 H2 H3 HJ HTT
        have HL9 := Lib.hid (load_struct (P := Tryz.prog) (T := 211) wr w.heap.size [.int .i64 10, .int .i64 k, .int .i64 ((j : Int) + 1), .bool true] HTH0.out (by kernel_rfl) Tryz.underlying211 rfl)
        have HB9 := Lib.hid (below_setCells2 HB0.out w.heap.size (Nat.le_refl _) [.int .i64 10, .int .i64 k, .int .i64 ((j : Int) + 1), .bool true] 0)
        obtain ⟨⟨z0, hz0⟩, hf0⟩ := there_cell HTH0.out 0 (by decide)
        obtain ⟨⟨z1, hz1⟩, hf1⟩ := there_cell HTH0.out 1 (by decide)
        obtain ⟨⟨z2, hz2⟩, hf2⟩ := there_cell HTH0.out 2 (by decide)
        obtain ⟨⟨z3, hz3⟩, hf3⟩ := there_cell HTH0.out 3 (by decide)
        go_wp2
        refine bodyPost_ret (results_cell1 rfl _ rfl HL9.out) rfl ?_
        rw [HE.out]
        exact ⟨by simp [tokV], HB9.out⟩
      · have h62b : (r == 62) = false := by simpa using h62
        by_cases h60 : r = 60
        · have HE : Hid (endTF l k = (10, j, false)) := by rw [Hid, HTT.out, HJ.out.trans (H2.out h60)]
          subst h60
          clear H1 H2 H3 HJ HTT h62
          have HL9 := Lib.hid (load_struct (P := Tryz.prog) (T := 211) wr w.heap.size [.int .i64 10, .int .i64 k, .int .i64 (j), .bool false] HTH0.out (by kernel_rfl) Tryz.underlying211 rfl)
          have HB9 := Lib.hid (below_setCells2 HB0.out w.heap.size (Nat.le_refl _) [.int .i64 10, .int .i64 k, .int .i64 (j), .bool false] 0)
          obtain ⟨⟨z0, hz0⟩, hf0⟩ := there_cell HTH0.out 0 (by decide)
          obtain ⟨⟨z1, hz1⟩, hf1⟩ := there_cell HTH0.out 1 (by decide)
          obtain ⟨⟨z2, hz2⟩, hf2⟩ := there_cell HTH0.out 2 (by decide)
          obtain ⟨⟨z3, hz3⟩, hf3⟩ := there_cell HTH0.out 3 (by decide)
          go_wp2
          refine bodyPost_ret (results_cell1 rfl _ rfl HL9.out) rfl ?_
          rw [HE.out]
          exact ⟨by simp [tokV], HB9.out⟩
        · have h60b : (r == 60) = false := by simpa using h60
          have HN := Lib.hid (HJ.out.trans (H3.out h62 h60))
          clear H1 H2 H3 HJ h62 h60
          go_wp2
          go_roundw
          case rel => exact ⟨trivial, j + 1, by omega, by omega, by go_num, HN.out⟩
          case measure => simp [intOf]; omega
    · have hji : ¬ (j : Int) < (l.length : Int) := by omega
      have HE : Hid (endTF l k = (10, l.length, false)) := by rw [Hid, HTT.out, HJ.out.trans (endGo_end l j hlt)]
      clear HJ HTT
      have HL9 := Lib.hid (load_struct (P := Tryz.prog) (T := 211) wr w.heap.size [.int .i64 10, .int .i64 k, .int .i64 (l.length), .bool false] HTH0.out (by kernel_rfl) Tryz.underlying211 rfl)
      have HB9 := Lib.hid (below_setCells2 HB0.out w.heap.size (Nat.le_refl _) [.int .i64 10, .int .i64 k, .int .i64 (l.length), .bool false] 0)
      obtain ⟨⟨z0, hz0⟩, hf0⟩ := there_cell HTH0.out 0 (by decide)
      obtain ⟨⟨z1, hz1⟩, hf1⟩ := there_cell HTH0.out 1 (by decide)
      obtain ⟨⟨z2, hz2⟩, hf2⟩ := there_cell HTH0.out 2 (by decide)
      obtain ⟨⟨z3, hz3⟩, hf3⟩ := there_cell HTH0.out 3 (by decide)
      go_wp2
      refine bodyPost_ret (results_cell1 rfl _ rfl HL9.out) rfl ?_
      rw [HE.out]
      exact ⟨by simp [tokV], HB9.out⟩
set_option maxHeartbeats 2000000 in
set_option maxRecDepth 100000 in
theorem StartT_any (S : Nat → Prop) (A : Option Addr) (n c : Nat) (l : List Int) (k : Nat) (w : World) (hr : Rd w S 1 A n c (rc l)) (hk : k < l.length) (hl9 : l.length ≤ 1000000000) :
    Calls Tryz.prog 235 #[.slice A n c, .int .i64 k] w fun e w' => e = .returned (tokV (startTF l k) k) ∧ Below w.heap.size w w' := by
  obtain rfl := hr.rlen
  have hle := hr.le
  have hmx : c ≤ 9223372036854775807 := hr.max
  have HR := Lib.hid hr
  have HAN : ∀ W, Below w.heap.size w W → Hid (Calls Tryz.prog 289 #[.slice A l.length c, .int .i64 ((k : Int) + 1), .bool true] W fun e w' => e = .returned (.tuple #[.int .i64 (angleF l true (k + 1)).1, .bool (angleF l true (k + 1)).2]) ∧ Below W.heap.size W w') := fun W h => by
    rw [show ((k : Int) + 1) = ((k + 1 : Nat) : Int) by omega]
    exact Angle_any S A l.length c l (k + 1) true W (HR.out.below h) (by omega) hl9
  obtain ⟨ha1, ha2, ha3⟩ := angleF_range l true l.length (k + 1) (by omega) (by omega)
  have HT : Hid (startTF l k = if (angleF l true (k + 1)).2 = false then (8, (angleF l true (k + 1)).1, false)
    else if l[(angleF l true (k + 1)).1 - 1]? = some 47 then (9, (angleF l true (k + 1)).1 + 1, true) else (8, (angleF l true (k + 1)).1 + 1, true)) := rfl
  clear hr
  generalize (angleF l true (k + 1)).1 = j at HAN HT ha1 ha2 ha3
  generalize (angleF l true (k + 1)).2 = b at HAN HT ha3
  go_enter Tryz.func235, Tryz.ntmps235
  go_wp2_with fail
  have HTH0 := Lib.hid (there_lit w #[.int .i64 0, .int .i64 0, .int .i64 0, .bool false] 211)
  have HB0 := Lib.hid (ba w (.cells #[.int .i64 0, .int .i64 0, .int .i64 0, .bool false] 211))
  have HSZ : Hid (w.heap.size < (w.alloc (.cells #[.int .i64 0, .int .i64 0, .int .i64 0, .bool false] 211)).heap.size) := by simp [Hid]
  generalize w.alloc (.cells #[.int .i64 0, .int .i64 0, .int .i64 0, .bool false] 211) = W0 at HTH0 HB0 HSZ
  refine (HAN _ HB0.out).out.mono ?_
  rintro e w1 ⟨rfl, hb1⟩
  have HB1 := Lib.hid (HB0.out.trans (hb1.mono HB0.out.size))
  have HTH1 : Hid (w1.there w.heap.size 0 4) := there_below HTH0.out hb1 HSZ.out
  clear hb1 HTH0 HSZ HB0 HAN
  cases b with
  | false =>
    have HE : Hid (startTF l k = (8, j, false)) := HT.out
    clear HT ha3
    have HL9 := Lib.hid (load_struct (P := Tryz.prog) (T := 211) w1 w.heap.size [.int .i64 8, .int .i64 k, .int .i64 (j), .bool false] HTH1.out (by kernel_rfl) Tryz.underlying211 rfl)
    have HB9 := Lib.hid (below_setCells2 HB1.out w.heap.size (Nat.le_refl _) [.int .i64 8, .int .i64 k, .int .i64 (j), .bool false] 0)
    obtain ⟨⟨z0, hz0⟩, hf0⟩ := there_cell HTH1.out 0 (by decide)
    obtain ⟨⟨z1, hz1⟩, hf1⟩ := there_cell HTH1.out 1 (by decide)
    obtain ⟨⟨z2, hz2⟩, hf2⟩ := there_cell HTH1.out 2 (by decide)
    obtain ⟨⟨z3, hz3⟩, hf3⟩ := there_cell HTH1.out 3 (by decide)
    go_wp2
    refine bodyPost_ret (results_cell1 rfl _ rfl HL9.out) rfl ?_
    rw [HE.out]
    exact ⟨by simp [tokV], HB9.out⟩
  | true =>
    have ha3 := ha3 rfl
    have hj1 : j - 1 < l.length := by omega
    have hj1i : (j : Int) - 1 < (l.length : Int) := by omega
    have hj0i : (0 : Int) ≤ (j : Int) - 1 := by omega
    obtain ⟨b, o, rfl, hc0⟩ := (HR.out.below HB1.out).rune hj1
    have HT2 : Hid (startTF l k = if l[j - 1] = 47 then (9, j + 1, true) else (8, j + 1, true)) := by
      rw [Hid, HT.out, if_neg (by simp), List.getElem?_eq_getElem hj1]
      simp only [Option.some.injEq]
    generalize l[j - 1] = r at hc0 HT2
    clear HT
    by_cases h47 : r = 47
    · have HE : Hid (startTF l k = (9, j + 1, true)) := by rw [Hid, HT2.out, if_pos h47]
      subst h47
      clear HT2
      have HL9 := Lib.hid (load_struct (P := Tryz.prog) (T := 211) w1 w.heap.size [.int .i64 9, .int .i64 k, .int .i64 ((j : Int) + 1), .bool true] HTH1.out (by kernel_rfl) Tryz.underlying211 rfl)
      have HB9 := Lib.hid (below_setCells2 HB1.out w.heap.size (Nat.le_refl _) [.int .i64 9, .int .i64 k, .int .i64 ((j : Int) + 1), .bool true] 0)
      obtain ⟨⟨z0, hz0⟩, hf0⟩ := there_cell HTH1.out 0 (by decide)
      obtain ⟨⟨z1, hz1⟩, hf1⟩ := there_cell HTH1.out 1 (by decide)
      obtain ⟨⟨z2, hz2⟩, hf2⟩ := there_cell HTH1.out 2 (by decide)
      obtain ⟨⟨z3, hz3⟩, hf3⟩ := there_cell HTH1.out 3 (by decide)
      go_wp2
      refine bodyPost_ret (results_cell1 rfl _ rfl HL9.out) rfl ?_
      rw [HE.out]
      exact ⟨by simp [tokV], HB9.out⟩
    · have HE : Hid (startTF l k = (8, j + 1, true)) := by rw [Hid, HT2.out, if_neg h47]
      have h47b : (r == 47) = false := by simpa using h47
      clear HT2 h47
      have HL9 := Lib.hid (load_struct (P := Tryz.prog) (T := 211) w1 w.heap.size [.int .i64 8, .int .i64 k, .int .i64 ((j : Int) + 1), .bool true] HTH1.out (by kernel_rfl) Tryz.underlying211 rfl)
      have HB9 := Lib.hid (below_setCells2 HB1.out w.heap.size (Nat.le_refl _) [.int .i64 8, .int .i64 k, .int .i64 ((j : Int) + 1), .bool true] 0)
      obtain ⟨⟨z0, hz0⟩, hf0⟩ := there_cell HTH1.out 0 (by decide)
      obtain ⟨⟨z1, hz1⟩, hf1⟩ := there_cell HTH1.out 1 (by decide)
      obtain ⟨⟨z2, hz2⟩, hf2⟩ := there_cell HTH1.out 2 (by decide)
      obtain ⟨⟨z3, hz3⟩, hf3⟩ := there_cell HTH1.out 3 (by decide)
      go_wp2
      refine bodyPost_ret (results_cell1 rfl _ rfl HL9.out) rfl ?_
      rw [HE.out]
      exact ⟨by simp [tokV], HB9.out⟩
end Go.Proofs.YtcmjijpofkoogaaGreat
namespace Go.Proofs.YtcmjijpofkoogaaGreat
open Go.RowKit Go.Lib
theorem findF_le (l : List Int) (k t : Nat) (bs : List UInt8) (j : Nat) (h : findF l k t bs = some j) : k ≤ j ∧ j < t + 1 - bs.length := by
  rw [findF, List.find?_range'_eq_some] at h
  have := List.mem_range'_1.1 h.2.1
  omega
theorem upToF_range (l : List Int) (kd k skip : Nat) (bs : List UInt8) (hk : k < l.length) (hb : 0 < bs.length) : k < (upToF l kd k skip bs).2.1 ∧ (upToF l kd k skip bs).2.1 ≤ l.length := by
  unfold upToF
  cases h : findF l (min (k + skip) l.length) l.length bs with
  | none => simp only; omega
  | some j =>
    have := findF_le l _ _ bs j h
    simp only; omega
def declF (l : List Int) (k : Nat) : Nat × Bool :=
  if startsF l k [60, 33, 45, 45] = true then ((upToF l 4 k 4 [45, 45, 62]).2.1, (upToF l 4 k 4 [45, 45, 62]).2.2)
  else if startsF l k [60, 63] = true then ((upToF l 5 k 2 [63, 62]).2.1, (upToF l 5 k 2 [63, 62]).2.2)
  else if l.getD k 0 = 60 then (min ((angleF l false k).1 + 1) l.length, (angleF l false k).2)
  else (k + 1, true)
theorem declF_range (l : List Int) (k : Nat) (hk : k < l.length) : k < (declF l k).1 ∧ (declF l k).1 ≤ l.length := by
  unfold declF
  split
  · exact upToF_range l 4 k 4 _ hk (by decide)
  · split
    · exact upToF_range l 5 k 2 _ hk (by decide)
    · split
      · have := angleF_range l false l.length k (by omega) (by omega)
        simp only; omega
      · simp only; omega
def subGo (l : List Int) (k : Nat) (ok : Bool) : Nat × Bool :=
  if h : k < l.length ∧ ok = true then (if l[k]'h.1 = 93 then (k + 1, true) else subGo l (declF l k).1 (declF l k).2) else (l.length, false)
termination_by l.length - k
decreasing_by
  have := declF_range l k h.1; omega
theorem subGo_hit (l : List Int) (k : Nat) (h : k < l.length) (hq : l[k] = 93) : subGo l k true = (k + 1, true) := by rw [subGo, dif_pos ⟨h, rfl⟩, if_pos hq]
theorem subGo_next (l : List Int) (k : Nat) (h : k < l.length) (hq : l[k] ≠ 93) : subGo l k true = subGo l (declF l k).1 (declF l k).2 := by
  conv => lhs; rw [subGo]
  rw [dif_pos ⟨h, rfl⟩, if_neg hq]
theorem subGo_end (l : List Int) (k : Nat) (ok : Bool) (h : ¬ (k < l.length ∧ ok = true)) : subGo l k ok = (l.length, false) := by rw [subGo, dif_neg h]
theorem subGo_range (l : List Int) : ∀ (n k : Nat) (ok : Bool), l.length - k ≤ n → k ≤ l.length → (k < (subGo l k ok).1 ∨ (subGo l k ok).1 = l.length) ∧ (subGo l k ok).1 ≤ l.length := by
  intro n
  induction n with
  | zero =>
    intro k ok h hk
    rw [subGo_end l k ok (by omega)]
    simp
  | succ n ih =>
    intro k ok h hk
    by_cases hlt : k < l.length ∧ ok = true
    · obtain ⟨hlt, rfl⟩ := hlt
      by_cases hq : l[k] = 93
      · rw [subGo_hit l k hlt hq]; simp only; omega
      · have := declF_range l k hlt
        have := ih (declF l k).1 (declF l k).2 (by omega) (by omega)
        rw [subGo_next l k hlt hq]; omega
    · rw [subGo_end l k ok hlt]; simp
def subF (l : List Int) (k : Nat) : Nat × Bool := subGo l (k + 1) true
set_option maxHeartbeats 2000000 in
set_option maxRecDepth 100000 in
theorem Declared_any (S : Nat → Prop) (A : Option Addr) (n c : Nat) (l : List Int) (k : Nat) (w : World) (hr : Rd w S 1 A n c (rc l)) (hk : k < l.length) (hl9 : l.length ≤ 1000000000) :
    Calls Tryz.prog 330 #[.slice A n c, .int .i64 k] w fun e w' => e = .returned (.tuple #[.int .i64 (declF l k).1, .bool (declF l k).2]) ∧ Below w.heap.size w w' := by
  obtain rfl := hr.rlen
  have hle := hr.le
  have hmx : c ≤ 9223372036854775807 := hr.max
  have HR := Lib.hid hr
  have HS1 : ∀ W, Below w.heap.size w W → Hid (Calls Tryz.prog 22 #[.slice A l.length c, .int .i64 k, .string ⟨#[60, 33, 45, 45]⟩] W fun e w' => e = .returned (.bool (startsF l k [60, 33, 45, 45])) ∧ Below W.heap.size W w') :=
    fun W h => Starts_any S A l.length c l k ⟨#[60, 33, 45, 45]⟩ W (HR.out.below h) (by omega) hl9 (by decide)
  have HS2 : ∀ W, Below w.heap.size w W → Hid (Calls Tryz.prog 22 #[.slice A l.length c, .int .i64 k, .string ⟨#[60, 63]⟩] W fun e w' => e = .returned (.bool (startsF l k [60, 63])) ∧ Below W.heap.size W w') :=
    fun W h => Starts_any S A l.length c l k ⟨#[60, 63]⟩ W (HR.out.below h) (by omega) hl9 (by decide)
  have HU1 : ∀ W, Below w.heap.size w W → Hid (Calls Tryz.prog 232 #[.slice A l.length c, .int .i64 4, .int .i64 k, .int .i64 4, .string ⟨#[45, 45, 62]⟩] W fun e w' => e = .returned (tokV (upToF l 4 k 4 [45, 45, 62]) k) ∧ Below W.heap.size W w') :=
    fun W h => UpTo_any S A l.length c l 4 k 4 ⟨#[45, 45, 62]⟩ W (HR.out.below h) (by omega) (by decide) hl9 (by decide)
  have HU2 : ∀ W, Below w.heap.size w W → Hid (Calls Tryz.prog 232 #[.slice A l.length c, .int .i64 5, .int .i64 k, .int .i64 2, .string ⟨#[63, 62]⟩] W fun e w' => e = .returned (tokV (upToF l 5 k 2 [63, 62]) k) ∧ Below W.heap.size W w') :=
    fun W h => UpTo_any S A l.length c l 5 k 2 ⟨#[63, 62]⟩ W (HR.out.below h) (by omega) (by decide) hl9 (by decide)
  have HAN := fun W (h : Below w.heap.size w W) => Lib.hid (Angle_any S A l.length c l k false W (HR.out.below h) (by omega) hl9)
  obtain ⟨ha1, ha2, _⟩ := angleF_range l false l.length k (by omega) (by omega)
  have HT : Hid (declF l k = if startsF l k [60, 33, 45, 45] = true then ((upToF l 4 k 4 [45, 45, 62]).2.1, (upToF l 4 k 4 [45, 45, 62]).2.2)
    else if startsF l k [60, 63] = true then ((upToF l 5 k 2 [63, 62]).2.1, (upToF l 5 k 2 [63, 62]).2.2)
    else if l[k] = 60 then (min ((angleF l false k).1 + 1) l.length, (angleF l false k).2) else (k + 1, true)) := by rw [Hid, declF, getD_at hk]
  have HCK := fun W (h : Below w.heap.size w W) => Lib.hid ((HR.out.below h).rune hk)
  clear hr
  have hki : (k : Int) < (l.length : Int) := by omega
  generalize declF l k = t at HT ⊢
  generalize startsF l k [60, 33, 45, 45] = s1 at HS1 HT
  generalize startsF l k [60, 63] = s2 at HS2 HT
  generalize upToF l 4 k 4 [45, 45, 62] = u1 at HU1 HT
  generalize upToF l 5 k 2 [63, 62] = u2 at HU2 HT
  generalize (angleF l false k).1 = aj at HAN HT ha1 ha2
  generalize (angleF l false k).2 = ab at HAN HT
  generalize l[k] = r at HCK HT
  obtain ⟨k1, t1, w1b⟩ := u1
  obtain ⟨k2, t2, w2b⟩ := u2
  have HU1 : ∀ W, Below w.heap.size w W → Hid (Calls Tryz.prog 232 #[.slice A l.length c, .int .i64 4, .int .i64 k, .int .i64 4, .string ⟨#[45, 45, 62]⟩] W fun e w' => e = .returned (.agg #[.int .i64 k1, .int .i64 k, .int .i64 t1, .bool w1b]) ∧ Below W.heap.size W w') := HU1
  have HU2 : ∀ W, Below w.heap.size w W → Hid (Calls Tryz.prog 232 #[.slice A l.length c, .int .i64 5, .int .i64 k, .int .i64 2, .string ⟨#[63, 62]⟩] W fun e w' => e = .returned (.agg #[.int .i64 k2, .int .i64 k, .int .i64 t2, .bool w2b]) ∧ Below W.heap.size W w') := HU2
  have hm : ∀ ts t W, (Builtin.min_ ts t #[.int .i64 ((aj : Int) + 1), .int .i64 (l.length : Int)]).run Tryz.prog W = .ok (.int .i64 (min (aj + 1) l.length : Nat)) W := fun ts t W => by
    rw [run_min_int2]
    congr 2
    split <;> omega
  go_enter Tryz.func330, Tryz.ntmps330
  go_wp2_with fail
  refine (HS1 _ (Below.refl _ _)).out.mono ?_
  rintro e v1 ⟨rfl, hb1⟩
  have HB1 := Lib.hid hb1
  clear hb1 HS1
  cases s1 with
  | true =>
    have HE : Hid (t = (t1, w1b)) := HT.out
    clear HT
    go_wp2_with fail
    refine (HU1 _ HB1.out).out.mono ?_
    rintro e v2 ⟨rfl, hb2⟩
    have HB2 := Lib.hid (bt HB1.out hb2)
    clear hb2
    go_wp2
    go_quiet (fail)
    go_wp2
    go_ret2
    rw [HE.out]
    exact ⟨rfl, below_drewN (bt HB2.out (ba _ _)) _⟩
  | false =>
    go_wp2_with fail
    refine (HS2 _ HB1.out).out.mono ?_
    rintro e v2 ⟨rfl, hb2⟩
    have HB2 := Lib.hid (bt HB1.out hb2)
    clear hb2
    cases s2 with
    | true =>
      have HE : Hid (t = (t2, w2b)) := HT.out
      clear HT
      go_wp2_with fail
      refine (HU2 _ HB2.out).out.mono ?_
      rintro e v3 ⟨rfl, hb3⟩
      have HB3 := Lib.hid (bt HB2.out hb3)
      clear hb3
      go_wp2
      go_quiet (fail)
      go_wp2
      go_ret2
      rw [HE.out]
      exact ⟨rfl, below_drewN (bt HB3.out (ba _ _)) _⟩
    | false =>
      obtain ⟨b, o, rfl, hc0⟩ := (HCK _ HB2.out).out
      by_cases h60 : r = 60
      · have HE : Hid (t = (min (aj + 1) l.length, ab)) := by rw [Hid, HT.out]; simp [h60]
        subst h60
        clear HT HCK
        generalize min (aj + 1) l.length = m2 at hm HE
        go_wp2_with fail
        refine (HAN _ HB2.out).out.mono ?_
        rintro e v3 ⟨rfl, hb3⟩
        have HB3 := Lib.hid (bt HB2.out hb3)
        clear hb3
        go_wp2
        go_ret2
        rw [HE.out]
        exact ⟨rfl, HB3.out⟩
      · have HE : Hid (t = (k + 1, true)) := by rw [Hid, HT.out]; simp [h60]
        have h60b : (r == 60) = false := by simpa using h60
        clear HT HCK h60
        go_wp2
        go_ret2
        rw [HE.out]
        exact ⟨by simp, HB2.out⟩
set_option maxHeartbeats 2000000 in
set_option maxRecDepth 100000 in
theorem Subset_any (S : Nat → Prop) (A : Option Addr) (n c : Nat) (l : List Int) (k : Nat) (w : World) (hr : Rd w S 1 A n c (rc l)) (hk : k < l.length) (hl9 : l.length ≤ 1000000000) :
    Calls Tryz.prog 288 #[.slice A n c, .int .i64 k] w fun e w' => e = .returned (.tuple #[.int .i64 (subF l k).1, .bool (subF l k).2]) ∧ Below w.heap.size w w' := by
  obtain rfl := hr.rlen
  have hle := hr.le
  have hmx : c ≤ 9223372036854775807 := hr.max
  have HR := Lib.hid hr
  clear hr
  have HT : Hid (subF l k = subGo l (k + 1) true) := rfl
  generalize subF l k = t at HT ⊢
  go_enter Tryz.func288, Tryz.ntmps288
  go_wp2
  go_loopw [1, 6] (fun i o wr => ∃ (j : Nat) (ok : Bool), j ≤ l.length ∧ i = .int .i64 j ∧ o = .bool ok ∧ Hid (t = subGo l j ok) ∧ Hid (Below w.heap.size w wr)) (fun i _ _ => l.length - (intOf i).toNat)
  case atStart => exact ⟨k + 1, true, by omega, by go_num, rfl, HT.out, Below.refl _ _⟩
  case round =>
    obtain ⟨j, ok, hj, rfl, rfl, HJ, HB⟩ := hrel
    by_cases hlt : j < l.length
    · have hji : (j : Int) < (l.length : Int) := by omega
      cases ok with
      | true =>
        obtain ⟨b, o, rfl, hc0⟩ := (HR.out.below HB.out).rune hlt
        have H1 := Lib.hid (subGo_hit l j hlt)
        have H2 := Lib.hid (subGo_next l j hlt)
        have HDC := Lib.hid (Declared_any S _ l.length c l j _ (HR.out.below HB.out) hlt hl9)
        obtain ⟨hd1, hd2⟩ := declF_range l j hlt
        generalize l[j] = r at hc0 H1 H2
        generalize (declF l j).1 = dj at H2 HDC hd1 hd2
        generalize (declF l j).2 = db at H2 HDC
        by_cases h93 : r = 93
        · have HE := Lib.hid (HJ.out.trans (H1.out h93))
          subst h93
          clear H1 H2 HJ HDC
          go_wp2
          go_ret2
          rw [HE.out]
          exact ⟨by simp, HB.out⟩
        · have HE := Lib.hid (HJ.out.trans (H2.out h93))
          have h93b : (r == 93) = false := by simpa using h93
          clear H1 H2 HJ h93
          go_wp2_with fail
          refine HDC.out.mono ?_
          rintro e v2 ⟨rfl, hb2⟩
          have HB2 := Lib.hid (HB.out.trans (hb2.mono HB.out.size))
          clear hb2
          go_wp2
          go_roundw
          case rel => exact ⟨dj, db, by omega, rfl, rfl, HE.out, HB2.out⟩
          case measure => simp [intOf]; omega
      | false =>
        have HE := Lib.hid (HJ.out.trans (subGo_end l j false (by simp)))
        clear HJ
        go_wp2
        go_ret2
        rw [HE.out]
        exact ⟨rfl, HB.out⟩
    · have hji : ¬ (j : Int) < (l.length : Int) := by omega
      have HE := Lib.hid (HJ.out.trans (subGo_end l j ok (fun h => hlt h.1)))
      clear HJ
      go_wp2
      go_ret2
      rw [HE.out]
      exact ⟨rfl, HB.out⟩
end Go.Proofs.YtcmjijpofkoogaaGreat
