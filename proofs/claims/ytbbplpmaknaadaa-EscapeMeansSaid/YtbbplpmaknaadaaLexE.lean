/-
  Layers 1, 14: runes as bytes; ends of lines: the program's and the document's. Rows of at most 100000000 runes.
-/
import Derived.Test.YtbbplpmaknaadaaLexB
import Derived.Lib.AppendStr
namespace Go.Proofs.Ytbbplpmaknaadaa
open Go.RowKit Go.Lib

/-! ### plain -/
def bytesF (l : List Int) : List UInt8 := l.flatMap runeF
def linesF : List Int → List Int
  | [] => []
  | r :: t => if r = 13 then 10 :: (match t with | [] => [] | x :: t' => if x = 10 then linesF t' else linesF (x :: t')) else r :: linesF t

theorem linesF_cons (r : Int) (t : List Int) (h : r ≠ 13) : linesF (r :: t) = r :: linesF t := by rw [linesF.eq_def]; simp only; rw [if_neg h]
theorem linesF_end : linesF [13] = [10] := by rw [linesF.eq_def]; rfl
theorem linesF_ten (t : List Int) : linesF (13 :: 10 :: t) = 10 :: linesF t := by rw [linesF.eq_def]; rfl
theorem linesF_other (x : Int) (t : List Int) (h : x ≠ 10) : linesF (13 :: x :: t) = 10 :: linesF (x :: t) := by rw [linesF.eq_def]; simp [h]
theorem linesF_skip (t : List Int) : linesF (13 :: 10 :: t) = linesF (10 :: t) := by rw [linesF_ten, linesF_cons 10 t (by decide)]

theorem enc8_rune (r : Int) (h : 0 < widthF r) : enc8 r = encodeRune r := by
  unfold widthF at h
  split at h
  · omega
  · rename_i h1
    have hv : Utf8.valid r = true := by simp [Utf8.valid]; omega
    by_cases h2 : r < 128
    · rw [enc8_small r (by omega) h2, encodeRune, encodeRuneZ_one (by omega) (by omega)]; rfl
    · unfold enc8 Utf8.encode
      simp only [hv, if_true]
      rw [if_neg (by omega)]
      by_cases h3 : r < 2048
      · rw [if_pos (by omega), encodeRune, encodeRuneZ_two (by omega) (by omega)]
        simp only [List.map_cons, List.map_nil]
        rw [show ((192 + r / 64).toNat) = 192 + r.toNat / 64 by omega, show ((128 + r % 64).toNat) = 128 + r.toNat % 64 by omega]
      · rw [if_neg (by omega)]
        by_cases h4 : r < 65536
        · rw [if_pos (by omega), encodeRune, encodeRuneZ_three (by omega)]
          simp only [List.map_cons, List.map_nil]
          rw [show ((224 + r / 4096).toNat) = 224 + r.toNat / 4096 by omega, show ((128 + r / 64 % 64).toNat) = 128 + r.toNat / 64 % 64 by omega, show ((128 + r % 64).toNat) = 128 + r.toNat % 64 by omega]
        · rw [if_neg (by omega), encodeRune, encodeRuneZ_four (by omega) (by omega)]
          simp only [List.map_cons, List.map_nil]
          rw [show ((240 + r / 262144).toNat) = 240 + r.toNat / 262144 by omega, show ((128 + r / 4096 % 64).toNat) = 128 + r.toNat / 4096 % 64 by omega, show ((128 + r / 64 % 64).toNat) = 128 + r.toNat / 64 % 64 by omega, show ((128 + r % 64).toNat) = 128 + r.toNat % 64 by omega]

theorem runeF_len (r : Int) : (runeF r).length ≤ 4 := by
  unfold runeF
  split
  · simp
  · rw [enc_width r (by omega)]; unfold widthF; repeat' split
    all_goals omega
theorem runeF_enc (r : Int) (h : 0 < widthF r) : (Utf8.encode r).data.toList = runeF r := by rw [runeF, if_neg (by omega)]; exact enc8_rune r h
theorem bytesF_len (l : List Int) : (bytesF l).length ≤ 4 * l.length := by
  induction l with
  | nil => simp [bytesF]
  | cons r t ih =>
    have := runeF_len r
    simp only [bytesF, List.flatMap_cons, List.length_append, List.length_cons] at ih ⊢
    omega
theorem bytesF_step (l : List Int) (k : Nat) (h : k < l.length) : bytesF (l.take (k + 1)) = bytesF (l.take k) ++ runeF l[k] := by
  rw [bytesF, bytesF, List.take_succ_eq_append_getElem h, List.flatMap_append]; simp

/-! ### walks -/
theorem Try.info5 : (Try.prog.info? 5).map (fun i => (i.zero, i.size, i.bytes)) = some (some (.int .u8 0), 1, 1) := by kernel_rfl

theorem append_bytes (w : World) {ops : Array Oper} {rest : List Oper} {o : Oper} {a : Act} {Q : Exit → Act → World → Prop} (hgd : o.guard = none) (s x : Operand)
    (ho : o.op = .call { callee := .builtin .append, args := #[s, x], argTypes := #[88, 88] })
    (base : Nat) (v : Value) (n : Nat) (xs : List UInt8) (hs : a.eval s = v) (hown : w.ownsRow base 5 1 v n (bc xs))
    (S : Nat → Prop) (A : Option Addr) (m c : Nat) (ys : List UInt8) (hx : a.eval x = .slice A m c) (hr : Rd w S 1 A m c (bc ys))
    (hlen : n + m ≤ 1000000000) (hbase : base ≤ w.heap.size)
    (h : ∀ A' c' w', w'.ownsRow base 5 1 (.slice A' (n + m) c') (n + m) (bc (xs ++ ys)) → w.grownBy w' v.ownBlock →
      c' ≤ 9223372036854775807 → wpList Try.prog ops Q rest (a.put o.dst (.slice A' (n + m) c')) w') :
    wpList Try.prog ops Q (o :: rest) a w := by
  obtain ⟨i0, hi, hz0, hz1, hz2⟩ := info_parts Try.info5
  refine wpList_append_rd w hgd s x 88 ho base 5 i0 _ 1 1 Try.underlying88 hi hz0 hz1 hz2 rfl (by omega) v n (bc xs) hs hown S A m c (bc ys) hx hr (bc_one ys) (by simp only [maxLen]; omega) (by omega) hbase ?_
  intro v' w' h1 h2 h3
  obtain ⟨A', c', rfl, hr'⟩ := own_form h1
  exact h A' c' w' (by simpa [bc] using h1) h2 hr'.max

theorem append_str (w : World) {ops : Array Oper} {rest : List Oper} {o : Oper} {a : Act} {Q : Exit → Act → World → Prop} (hgd : o.guard = none) (s x : Operand)
    (ho : o.op = .call { callee := .builtin .append, args := #[s, x], argTypes := #[88, 9] })
    (base : Nat) (v : Value) (n : Nat) (xs : List UInt8) (hs : a.eval s = v) (hown : w.ownsRow base 5 1 v n (bc xs))
    (str : ByteArray) (hx : a.eval x = .string str) (hlen : n + str.size ≤ 1000000000) (hbase : base ≤ w.heap.size)
    (h : ∀ A' c' w', w'.ownsRow base 5 1 (.slice A' (n + str.size) c') (n + str.size) (bc (xs ++ str.data.toList)) → w.grownBy w' v.ownBlock →
      c' ≤ 9223372036854775807 → wpList Try.prog ops Q rest (a.put o.dst (.slice A' (n + str.size) c')) w') :
    wpList Try.prog ops Q (o :: rest) a w := by
  obtain ⟨i0, hi, hz0, hz1, hz2⟩ := info_parts Try.info5
  refine wpList_append_own_string w hgd s x 88 9 ho base 5 i0 Try.underlying88 Try.underlying9 hi hz0 hz1 hz2 v n (bc xs) hs hown str hx (by simp only [maxLen]; omega) (by omega) hbase ?_
  intro v' w' h1 h2 h3
  obtain ⟨A', c', rfl, hr'⟩ := own_form h1
  exact h A' c' w' (by simpa [bc, strCells] using h1) h2 hr'.max

theorem bc_own_len {w : World} {base : Nat} {e : TypeId} {v : Value} {n : Nat} {xs : List UInt8} (h : w.ownsRow base e 1 v n (bc xs)) : n = xs.length := by have := h.1; simpa using this.symm

set_option maxHeartbeats 1000000 in
set_option maxRecDepth 100000 in
theorem Bytes_any (S : Nat → Prop) (A : Option Addr) (n c : Nat) (l : List Int) (w : World) (hr : Rd w S 1 A n c (rc l)) (hn9 : l.length ≤ 100000000) :
    Calls Try.prog 90 #[.slice A n c] w fun e w' => ∃ v, e = .returned v ∧ (∃ n', w'.ownsRow w.heap.size 5 1 v n' (bc (bytesF l))) ∧ Below w.heap.size w w' := by
  obtain rfl := hr.rlen
  have hle := hr.le
  have hmx : c ≤ 9223372036854775807 := hr.max
  have HR := Lib.hid hr
  clear hr
  go_enter Try.func90, Try.ntmps90
  go_wp2
  go_loopw [3, 8] (fun v i wr => ∃ (k : Nat), k ≤ l.length ∧ i = .int .i64 k ∧ Hid (∃ n', wr.ownsRow w.heap.size 5 1 v n' (bc (bytesF (l.take k)))) ∧ Hid (Below w.heap.size w wr))
    (fun _ i _ => l.length - (intOf i).toNat)
  case atStart => exact ⟨0, Nat.zero_le _, rfl, ⟨0, World.ownsRow_nil w w.heap.size 5 1⟩, Below.refl _ _⟩
  case round =>
    obtain ⟨k, hk, rfl, HO, HB⟩ := hrel
    obtain ⟨no, HO⟩ := HO.out
    have hno := bc_own_len HO
    have hno2 : no ≤ 400000000 := by have := bytesF_len (l.take k); simp at this; omega
    clear hno
    obtain ⟨Ao, co, rfl, hro⟩ := own_form HO
    have hco2 : co ≤ 9223372036854775807 := hro.max
    have HO := Lib.hid HO
    clear hro
    by_cases hlt : k < l.length
    · obtain ⟨b, u, rfl, hc0⟩ := (HR.out.below HB.out).rune hlt
      have HST := Lib.hid (bytesF_step l k hlt)
      have HW := fun w => Lib.hid (Width_any l[k] w)
      have HE := Lib.hid (runeF_enc l[k])
      have hes := runeF_len l[k]
      have HZ := Lib.hid (fun (h : widthF l[k] = 0) => (by rw [runeF, if_pos h] : runeF l[k] = []))
      generalize l[k] = r at hc0 HST HW HE hes HZ
      by_cases h0 : widthF r = 0
      · have hw0 : ¬ ((widthF r : Nat) : Int) > 0 := by omega
        have HZ2 := Lib.hid (HZ.out h0)
        clear HZ HE h0
        generalize widthF r = wd at HW hw0
        go_wp2_with (go_at_call 108; refine (HW _).out.mono ?_; rintro e w' ⟨rfl, rfl⟩)
        go_roundw
        case rel => exact ⟨k + 1, by omega, by go_num, ⟨_, by rw [HST.out, HZ2.out, List.append_nil]; exact HO.out⟩, HB.out⟩
        case measure => simp [intOf]; omega
      · have hw0 : ((widthF r : Nat) : Int) > 0 := by omega
        have HE2 := Lib.hid (HE.out (by omega))
        have hsz : (Utf8.encode r).size ≤ 4 := by
          have e : (Utf8.encode r).data.toList.length = (Utf8.encode r).size := by simp
          rw [← e, HE2.out]; exact hes
        clear HZ HE h0
        generalize widthF r = wd at HW hw0
        go_wp2_with (first
          | (go_at_call 108; refine (HW _).out.mono ?_; rintro e w' ⟨rfl, rfl⟩)
          | (at_builtin
             refine append_str _ rfl (.tmp 15) (.tmp 17) rfl w.heap.size _ _ _ rfl HO.out (Utf8.encode r) rfl (by omega) HB.out.size ?_
             intro A4 c4 w4 hown4 hg4 _
             have hb4 := below_own HB.out HB.out.size HO.out hg4
             rw [HE2.out] at hown4
             have HB4 := Lib.hid hb4
             have HO4 := Lib.hid hown4
             clear hown4 hg4 hb4))
        go_roundw
        case rel => exact ⟨k + 1, by omega, by go_num, ⟨_, by rw [HST.out]; exact HO4.out⟩, HB4.out⟩
        case measure => simp [intOf]; omega
    · have e : l.take k = l := List.take_of_length_le (by omega)
      rw [e] at HO
      go_wp2
      go_ret
      exact ⟨_, rfl, ⟨_, HO.out⟩, HB.out⟩

set_option maxHeartbeats 1000000 in
set_option maxRecDepth 100000 in
theorem RBytes_any (S : Nat → Prop) (A : Option Addr) (n c : Nat) (l : List Int) (w : World) (hr : Rd w S 1 A n c (rc l)) (hn9 : l.length ≤ 100000000) (hi : I32 l) :
    Calls Try.prog 94 #[.slice A n c] w fun e w' => ∃ v, e = .returned v ∧ (∃ n', w'.ownsRow w.heap.size 5 1 v n' (bc (bytesF l))) ∧ Below w.heap.size w w' := by
  obtain rfl := hr.rlen
  have hle := hr.le
  have hmx : c ≤ 9223372036854775807 := hr.max
  have HR := Lib.hid hr
  have HI := Lib.hid hi
  clear hr hi
  go_enter Try.func94, Try.ntmps94
  go_wp2
  go_loopw [3, 8] (fun v i wr => ∃ (k : Nat), k ≤ l.length ∧ i = .int .i64 k ∧ Hid (∃ n', wr.ownsRow w.heap.size 5 1 v n' (bc (bytesF (l.take k)))) ∧ Hid (Below w.heap.size w wr))
    (fun _ i _ => l.length - (intOf i).toNat)
  case atStart => exact ⟨0, Nat.zero_le _, rfl, ⟨0, World.ownsRow_nil w w.heap.size 5 1⟩, Below.refl _ _⟩
  case round =>
    obtain ⟨k, hk, rfl, HO, HB⟩ := hrel
    obtain ⟨no, HO⟩ := HO.out
    have hno := bc_own_len HO
    have hno2 : no ≤ 400000000 := by have := bytesF_len (l.take k); simp at this; omega
    clear hno
    obtain ⟨Ao, co, rfl, hro⟩ := own_form HO
    have hco2 : co ≤ 9223372036854775807 := hro.max
    have HO := Lib.hid HO
    clear hro
    by_cases hlt : k < l.length
    · obtain ⟨b, u, rfl, hc0⟩ := (HR.out.below HB.out).rune hlt
      have HST := Lib.hid (bytesF_step l k hlt)
      have hri := HI.out _ (List.getElem_mem hlt)
      have HW := fun w => Lib.hid (Rune_any l[k] w hri.1 hri.2)
      have hes := runeF_len l[k]
      clear hri
      generalize l[k] = r at hc0 HST HW hes
      generalize runeF r = rb at HST HW hes
      go_wp2_with fail
      refine (HW _).out.mono ?_
      rintro e w2 ⟨v2, rfl, ⟨A2, n2, c2, rfl, hr2⟩, hb2⟩
      obtain rfl := bc_len hr2
      have HO2 := Lib.hid (own_below HO.out hb2)
      have HB2 := Lib.hid (HB.out.trans (hb2.mono HB.out.size))
      have HR2 := Lib.hid hr2
      clear hr2 hb2 HO
      go_wp2_with (first
        | (at_builtin
           refine append_bytes _ rfl (.tmp 12) (.tmp 14) rfl w.heap.size _ no _ rfl HO2.out _ A2 rb.length c2 rb rfl HR2.out (by omega) HB2.out.size ?_
           intro A4 c4 w4 hown4 hg4 _
           have hb4 := below_own HB2.out HB2.out.size HO2.out hg4
           have HB4 := Lib.hid hb4
           have HO4 := Lib.hid hown4
           clear hown4 hg4 hb4))
      go_roundw
      case rel => exact ⟨k + 1, by omega, by go_num, ⟨_, by rw [HST.out]; exact HO4.out⟩, HB4.out⟩
      case measure => simp [intOf]; omega
    · have e : l.take k = l := List.take_of_length_le (by omega)
      rw [e] at HO
      go_wp2
      go_ret
      exact ⟨_, rfl, ⟨_, HO.out⟩, HB.out⟩

end Go.Proofs.Ytbbplpmaknaadaa
