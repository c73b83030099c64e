/-
  Layers 5, 23: a text's runes: three functions of one shape. Texts of at most 300000000 bytes.
-/
import Derived.Test.YtbbplpmaknaadaaItemsR
import Derived.Test.YtbbplpmaknaadaaSlices
namespace Go.Proofs.Ytbbplpmaknaadaa
open Go.RowKit Go.Lib

theorem itemCells_get : ∀ (o : List (Int × Nat × Nat)) (k : Nat), (h : k < o.length) →
    (itemCells o)[k * 3]? = some (.int .i32 o[k].1) ∧ (itemCells o)[k * 3 + 1]? = some (.int .i64 o[k].2.1) ∧ (itemCells o)[k * 3 + 2]? = some (.int .i64 o[k].2.2)
  | [], _, h => absurd h (by simp)
  | x :: t, 0, _ => ⟨rfl, rfl, rfl⟩
  | x :: t, k + 1, h => by
    have ih := itemCells_get t k (by simpa using h)
    have e : ∀ i, (itemCells (x :: t))[(k + 1) * 3 + i]? = (itemCells t)[k * 3 + i]? := fun i => by
      show (Value.int .i32 x.1 :: .int .i64 x.2.1 :: .int .i64 x.2.2 :: itemCells t)[(k + 1) * 3 + i]? = _
      rw [show (k + 1) * 3 + i = (k * 3 + i) + 1 + 1 + 1 by omega]
      rfl
    refine ⟨(e 0).trans ih.1, (e 1).trans ih.2.1, (e 2).trans ih.2.2⟩

theorem Rd.item {w : World} {S : Nat → Prop} {n c : Nat} {A : Option Addr} {o : List (Int × Nat × Nat)} (h : Rd w S 3 A n c (itemCells o)) {k : Nat} (hk : k < o.length) :
    ∃ b u, A = some ⟨b, u, none⟩ ∧ S b ∧ w.cell? ⟨b, u + k * 3, none⟩ = some (.int .i32 o[k].1) ∧ w.cell? ⟨b, u + k * 3 + 1, none⟩ = some (.int .i64 o[k].2.1) ∧ w.cell? ⟨b, u + k * 3 + 2, none⟩ = some (.int .i64 o[k].2.2) := by
  have hl := h.len
  rw [itemCells_len] at hl
  obtain ⟨b, u, e, hb, hc⟩ := h.at_ (by omega)
  obtain ⟨h1, h2, h3⟩ := itemCells_get o k hk
  exact ⟨b, u, e, hb, hc _ _ h1, hc _ _ h2, hc _ _ h3⟩

theorem runesF_len (l : List UInt8) : (runesF l).length ≤ l.length := by
  rw [runesF, List.length_map]
  exact items_len _ _ _

set_option maxHeartbeats 1000000 in
set_option maxRecDepth 100000 in
theorem ERunes_any (s : ByteArray) (w : World) (hlen : s.size ≤ 300000000) :
    Calls Try.prog 58 #[.string s] w fun e w' => ∃ v, e = .returned v ∧ (∃ n', w'.ownsRow w.heap.size 21 1 v n' (rc (runesF s.data.toList))) ∧ Below w.heap.size w w' := by
  obtain ⟨A0, c0, w1, hcv, hr, hb, hc0⟩ := run_string_bytes (P := Try.prog) w s 9 88 5 Try.underlying9 Try.underlying88 Try.underlying5 (by omega)
  have hll : s.data.toList.length = s.size := by simp
  generalize s.data.toList = l at hr hll ⊢
  have HR := Lib.hid hr
  have HB1 := Lib.hid hb
  clear hr hb
  go_enter Try.func58, Try.ntmps58
  go_wp2_with fail
  refine (Items_any _ A0 s.size c0 l w1 HR.out (by omega)).mono ?_
  rintro e w2 ⟨v, rfl, ⟨n', hown⟩, hb2⟩
  obtain ⟨A, c, rfl, hro⟩ := own_form hown
  have hn : n' = (itemsF l).length := by have := hown.1; rw [itemCells_len] at this; omega
  have hil : (itemsF l).length ≤ l.length := items_len _ _ _
  have hco : c ≤ 9223372036854775807 := hro.max
  have hle := hro.le
  have HRF : Hid (runesF l = (itemsF l).map (·.1)) := rfl
  have HRO := Lib.hid hro
  have HB2 := Lib.hid (HB1.out.trans (hb2.mono HB1.out.size))
  clear hro hb2 hown
  generalize itemsF l = its at hn hil HRF HRO
  subst hn
  go_wp2
  go_loopw [3, 10] (fun v i wr => ∃ (k : Nat), k ≤ its.length ∧ i = .int .i64 k ∧ Hid (∃ n', wr.ownsRow w2.heap.size 21 1 v n' (rc ((its.take k).map (·.1)))) ∧ Hid (Below w2.heap.size w2 wr))
    (fun _ i _ => its.length - (intOf i).toNat)
  case atStart => exact ⟨0, Nat.zero_le _, rfl, ⟨0, by simpa using World.ownsRow_nil w2 w2.heap.size 21 1⟩, Below.refl _ _⟩
  case round =>
    obtain ⟨k, hk, rfl, HO, HB⟩ := hrel
    obtain ⟨no, HO⟩ := HO.out
    have hno : no = k := by have := rc_own_len HO; simp at this; omega
    subst hno
    obtain ⟨Ao, co, rfl, hro⟩ := own_form HO
    have hco2 : co ≤ 9223372036854775807 := hro.max
    have HO := Lib.hid HO
    clear hro
    by_cases hlt : no < its.length
    · obtain ⟨b, u, rfl, hbb, hc0, hc1, hc2⟩ := (HRO.out.below HB.out).item hlt
      have htk : (its.take (no + 1)).map (·.1) = (its.take no).map (·.1) ++ [its[no].1] := by rw [List.take_succ_eq_append_getElem hlt, List.map_append]; rfl
      have HTK := Lib.hid htk
      clear htk
      generalize its[no].1 = r0 at hc0 HTK
      generalize its[no].2.1 = r1 at hc1
      generalize its[no].2.2 = r2 at hc2
      go_wp2_with (first
        | (at_builtin
           refine append_runes _ rfl (.tmp 14) (.tmp 17) rfl w2.heap.size _ _ _ rfl ((HO.out.alloc _).alloc _) _ _ 1 1 [r0] rfl (Rd.litN _ (wr.heap.size + 1) (by simp) _ #[.int .i32 r0] 1 1 rfl (by decide)) (by omega) (by have := HB.out.size; simp; omega) ?_
           intro A4 c4 w4 hown4 hg4 _ _
           have hb4 := below_own ((HB.out.alloc HB.out.size _).alloc (by have := HB.out.size; simp; omega) _) (by have := HB.out.size; simp; omega) ((HO.out.alloc _).alloc _) hg4
           have HB4 := Lib.hid hb4
           have HO4 := Lib.hid hown4
           clear hown4 hg4 hb4))
      go_roundw
      case rel => exact ⟨no + 1, by omega, by go_num, ⟨_, by rw [HTK.out]; exact HO4.out⟩, HB4.out⟩
      case measure => simp [intOf]; omega
    · have e : its.take no = its := List.take_of_length_le (by omega)
      have HE : Hid (runesF l = (its.take no).map (·.1)) := by rw [Hid, HRF.out, e]
      go_wp2
      go_ret
      exact ⟨_, rfl, ⟨_, by rw [HE.out]; exact own_base HO.out (by have := HB2.out.size; omega)⟩, HB2.out.trans (HB.out.mono HB2.out.size)⟩

set_option maxHeartbeats 1000000 in
set_option maxRecDepth 100000 in
theorem NRunes_any (s : ByteArray) (w : World) (hlen : s.size ≤ 300000000) :
    Calls Try.prog 77 #[.string s] w fun e w' => ∃ v, e = .returned v ∧ (∃ n', w'.ownsRow w.heap.size 21 1 v n' (rc (runesF s.data.toList))) ∧ Below w.heap.size w w' := by
  obtain ⟨A0, c0, w1, hcv, hr, hb, hc0⟩ := run_string_bytes (P := Try.prog) w s 9 88 5 Try.underlying9 Try.underlying88 Try.underlying5 (by omega)
  have hll : s.data.toList.length = s.size := by simp
  generalize s.data.toList = l at hr hll ⊢
  have HR := Lib.hid hr
  have HB1 := Lib.hid hb
  clear hr hb
  go_enter Try.func77, Try.ntmps77
  go_wp2_with fail
  refine (Items_any _ A0 s.size c0 l w1 HR.out (by omega)).mono ?_
  rintro e w2 ⟨v, rfl, ⟨n', hown⟩, hb2⟩
  obtain ⟨A, c, rfl, hro⟩ := own_form hown
  have hn : n' = (itemsF l).length := by have := hown.1; rw [itemCells_len] at this; omega
  have hil : (itemsF l).length ≤ l.length := items_len _ _ _
  have hco : c ≤ 9223372036854775807 := hro.max
  have hle := hro.le
  have HRF : Hid (runesF l = (itemsF l).map (·.1)) := rfl
  have HRO := Lib.hid hro
  have HB2 := Lib.hid (HB1.out.trans (hb2.mono HB1.out.size))
  clear hro hb2 hown
  generalize itemsF l = its at hn hil HRF HRO
  subst hn
  go_wp2
  go_loopw [3, 10] (fun v i wr => ∃ (k : Nat), k ≤ its.length ∧ i = .int .i64 k ∧ Hid (∃ n', wr.ownsRow w2.heap.size 21 1 v n' (rc ((its.take k).map (·.1)))) ∧ Hid (Below w2.heap.size w2 wr))
    (fun _ i _ => its.length - (intOf i).toNat)
  case atStart => exact ⟨0, Nat.zero_le _, rfl, ⟨0, by simpa using World.ownsRow_nil w2 w2.heap.size 21 1⟩, Below.refl _ _⟩
  case round =>
    obtain ⟨k, hk, rfl, HO, HB⟩ := hrel
    obtain ⟨no, HO⟩ := HO.out
    have hno : no = k := by have := rc_own_len HO; simp at this; omega
    subst hno
    obtain ⟨Ao, co, rfl, hro⟩ := own_form HO
    have hco2 : co ≤ 9223372036854775807 := hro.max
    have HO := Lib.hid HO
    clear hro
    by_cases hlt : no < its.length
    · obtain ⟨b, u, rfl, hbb, hc0, hc1, hc2⟩ := (HRO.out.below HB.out).item hlt
      have htk : (its.take (no + 1)).map (·.1) = (its.take no).map (·.1) ++ [its[no].1] := by rw [List.take_succ_eq_append_getElem hlt, List.map_append]; rfl
      have HTK := Lib.hid htk
      clear htk
      generalize its[no].1 = r0 at hc0 HTK
      generalize its[no].2.1 = r1 at hc1
      generalize its[no].2.2 = r2 at hc2
      go_wp2_with (first
        | (at_builtin
           refine append_runes _ rfl (.tmp 14) (.tmp 17) rfl w2.heap.size _ _ _ rfl ((HO.out.alloc _).alloc _) _ _ 1 1 [r0] rfl (Rd.litN _ (wr.heap.size + 1) (by simp) _ #[.int .i32 r0] 1 1 rfl (by decide)) (by omega) (by have := HB.out.size; simp; omega) ?_
           intro A4 c4 w4 hown4 hg4 _ _
           have hb4 := below_own ((HB.out.alloc HB.out.size _).alloc (by have := HB.out.size; simp; omega) _) (by have := HB.out.size; simp; omega) ((HO.out.alloc _).alloc _) hg4
           have HB4 := Lib.hid hb4
           have HO4 := Lib.hid hown4
           clear hown4 hg4 hb4))
      go_roundw
      case rel => exact ⟨no + 1, by omega, by go_num, ⟨_, by rw [HTK.out]; exact HO4.out⟩, HB4.out⟩
      case measure => simp [intOf]; omega
    · have e : its.take no = its := List.take_of_length_le (by omega)
      have HE : Hid (runesF l = (its.take no).map (·.1)) := by rw [Hid, HRF.out, e]
      go_wp2
      go_ret
      exact ⟨_, rfl, ⟨_, by rw [HE.out]; exact own_base HO.out (by have := HB2.out.size; omega)⟩, HB2.out.trans (HB.out.mono HB2.out.size)⟩

set_option maxHeartbeats 1000000 in
set_option maxRecDepth 100000 in
theorem RRunes_any (s : ByteArray) (w : World) (hlen : s.size ≤ 300000000) :
    Calls Try.prog 60 #[.string s] w fun e w' => ∃ v, e = .returned v ∧ (∃ n', w'.ownsRow w.heap.size 21 1 v n' (rc (runesF s.data.toList))) ∧ Below w.heap.size w w' := by
  obtain ⟨A0, c0, w1, hcv, hr, hb, hc0⟩ := run_string_bytes (P := Try.prog) w s 9 88 5 Try.underlying9 Try.underlying88 Try.underlying5 (by omega)
  have hll : s.data.toList.length = s.size := by simp
  generalize s.data.toList = l at hr hll ⊢
  have HR := Lib.hid hr
  have HB1 := Lib.hid hb
  clear hr hb
  go_enter Try.func60, Try.ntmps60
  go_wp2_with fail
  refine (RItems_any _ A0 s.size c0 l w1 HR.out (by omega)).mono ?_
  rintro e w2 ⟨v, rfl, ⟨n', hown⟩, hb2⟩
  obtain ⟨A, c, rfl, hro⟩ := own_form hown
  have hn : n' = (itemsF l).length := by have := hown.1; rw [itemCells_len] at this; omega
  have hil : (itemsF l).length ≤ l.length := items_len _ _ _
  have hco : c ≤ 9223372036854775807 := hro.max
  have hle := hro.le
  have HRF : Hid (runesF l = (itemsF l).map (·.1)) := rfl
  have HRO := Lib.hid hro
  have HB2 := Lib.hid (HB1.out.trans (hb2.mono HB1.out.size))
  clear hro hb2 hown
  generalize itemsF l = its at hn hil HRF HRO
  subst hn
  go_wp2
  go_loopw [3, 10] (fun v i wr => ∃ (k : Nat), k ≤ its.length ∧ i = .int .i64 k ∧ Hid (∃ n', wr.ownsRow w2.heap.size 21 1 v n' (rc ((its.take k).map (·.1)))) ∧ Hid (Below w2.heap.size w2 wr))
    (fun _ i _ => its.length - (intOf i).toNat)
  case atStart => exact ⟨0, Nat.zero_le _, rfl, ⟨0, by simpa using World.ownsRow_nil w2 w2.heap.size 21 1⟩, Below.refl _ _⟩
  case round =>
    obtain ⟨k, hk, rfl, HO, HB⟩ := hrel
    obtain ⟨no, HO⟩ := HO.out
    have hno : no = k := by have := rc_own_len HO; simp at this; omega
    subst hno
    obtain ⟨Ao, co, rfl, hro⟩ := own_form HO
    have hco2 : co ≤ 9223372036854775807 := hro.max
    have HO := Lib.hid HO
    clear hro
    by_cases hlt : no < its.length
    · obtain ⟨b, u, rfl, hbb, hc0, hc1, hc2⟩ := (HRO.out.below HB.out).item hlt
      have htk : (its.take (no + 1)).map (·.1) = (its.take no).map (·.1) ++ [its[no].1] := by rw [List.take_succ_eq_append_getElem hlt, List.map_append]; rfl
      have HTK := Lib.hid htk
      clear htk
      generalize its[no].1 = r0 at hc0 HTK
      generalize its[no].2.1 = r1 at hc1
      generalize its[no].2.2 = r2 at hc2
      go_wp2_with (first
        | (at_builtin
           refine append_runes _ rfl (.tmp 14) (.tmp 17) rfl w2.heap.size _ _ _ rfl ((HO.out.alloc _).alloc _) _ _ 1 1 [r0] rfl (Rd.litN _ (wr.heap.size + 1) (by simp) _ #[.int .i32 r0] 1 1 rfl (by decide)) (by omega) (by have := HB.out.size; simp; omega) ?_
           intro A4 c4 w4 hown4 hg4 _ _
           have hb4 := below_own ((HB.out.alloc HB.out.size _).alloc (by have := HB.out.size; simp; omega) _) (by have := HB.out.size; simp; omega) ((HO.out.alloc _).alloc _) hg4
           have HB4 := Lib.hid hb4
           have HO4 := Lib.hid hown4
           clear hown4 hg4 hb4))
      go_roundw
      case rel => exact ⟨no + 1, by omega, by go_num, ⟨_, by rw [HTK.out]; exact HO4.out⟩, HB4.out⟩
      case measure => simp [intOf]; omega
    · have e : its.take no = its := List.take_of_length_le (by omega)
      have HE : Hid (runesF l = (its.take no).map (·.1)) := by rw [Hid, HRF.out, e]
      go_wp2
      go_ret
      exact ⟨_, rfl, ⟨_, by rw [HE.out]; exact own_base HO.out (by have := HB2.out.size; omega)⟩, HB2.out.trans (HB.out.mono HB2.out.size)⟩

end Go.Proofs.Ytbbplpmaknaadaa
