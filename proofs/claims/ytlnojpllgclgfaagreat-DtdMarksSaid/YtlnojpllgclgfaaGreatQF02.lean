/- Parts of the proof; conditions as told. -/
import Derived.Test.YtlnojpllgclgfaaGreatQF01
import Derived.Lib.AppendZeros
import Derived.Deep.RegionWith
set_option linter.unusedSimpArgs false
set_option linter.unusedVariables false
namespace Go.Proofs.YtlnojpllgclgfaaGreat
open Go.RowKit
set_option maxHeartbeats 1000000 in
set_option maxRecDepth 100000 in
theorem GrowNil_any (n : Nat) (w : World) (hn : n ≤ 1000000000) :
    Calls Tryz.prog 78 #[.slice none 0 0, .int .i64 n] w fun e w' => ∃ v, e = .returned v ∧ w'.ownsRow w.heap.size 21 1 v 0 (rc []) ∧ Below w.heap.size w w' := by
  obtain ⟨i0, hi, hz0, hz1, hz2⟩ := info_parts Tryz.info21
  rcases Nat.eq_zero_or_pos n with rfl | h0
  · go_enter Tryz.func78, Tryz.ntmps78
    go_wp2
    go_ret
    exact ⟨_, rfl, World.ownsRow_nil _ _ _ _, Below.refl _ _⟩
  · have hrz : ∀ ty, (Builtin.append_ #[22, 3] ty #[.slice none 0 0, .int .i64 (n : Int)]).run Tryz.prog w =
        .ok (.slice (some ⟨w.heap.size, 0, none⟩) n (grownCap w n 0 21)) (w.drew.alloc (.cells (Builtin.zeroCells (Value.int .i32 0).cells n ++ Builtin.zeroCells (Value.int .i32 0).cells (grownCap w n 0 21 - n)) 21)) := fun ty =>
      Lib.run_append_nil_zeros w 22 3 ty 21 i0 _ .i64 .i64 Tryz.underlying22 Tryz.underlying3 hi hz0 n h0 (by omega) (by omega) (by rw [hz2]; omega)
    have hG := grownCap_ge w n 0 21
    have hG63 := grownCap_le_maxLen w n 0 21 (by unfold maxLen; omega)
    have hown : (w.drew.alloc (.cells (Builtin.zeroCells (Value.int .i32 0).cells n ++ Builtin.zeroCells (Value.int .i32 0).cells (grownCap w n 0 21 - n)) 21)).ownsRow w.heap.size 21 1 (.slice (some ⟨w.heap.size, 0, none⟩) 0 (grownCap w n 0 21)) 0 (rc []) :=
      ⟨by simp [rc], .inr ⟨w.heap.size, _, _, rfl, Nat.le_refl _, heap_alloc_new w.drew _, Nat.zero_le _, hG63, by
        simp only [Array.size_append, size_zeroCells]
        have : (Value.int IntKind.i32 0).cells.size = 1 := rfl
        rw [this]; omega, by simp [rc]⟩⟩
    have hG64 : grownCap w n 0 21 ≤ 9223372036854775807 := hG63
    generalize grownCap w n 0 21 = G at hrz hG hG64 hown
    generalize Builtin.zeroCells (Value.int .i32 0).cells n ++ Builtin.zeroCells (Value.int .i32 0).cells (G - n) = Z at hrz hown
    have HOWN := Lib.hid hown
    clear hown hG63 hi hz0 hz1 hz2
    have h2 : ¬ ((n : Int) < 0) := by omega
    go_enter Tryz.func78, Tryz.ntmps78
    go_wp2_with (at_builtin; refine Lib.wpList_append_run _ rfl _ _ _ _ rfl _ _ rfl rfl _ _ (hrz _) ?_)
    go_ret
    exact ⟨_, rfl, HOWN.out, (Below.refl _ w).drew.alloc (Nat.le_refl _) _⟩
def RunesV (w : World) (v : Value) (l : List Int) : Prop := ∃ A n c, v = .slice A n c ∧ Rd w (fun _ => True) 1 A n c (rc l)
theorem RunesV.of_own {w : World} {base : Nat} {e : TypeId} {v : Value} {n : Nat} {l : List Int} (h : w.ownsRow base e 1 v n (rc l)) : RunesV w v l := by
  obtain ⟨A, c, rfl, hr⟩ := own_form h
  exact ⟨A, n, c, rfl, hr.more fun _ _ => trivial⟩
theorem RunesV.of_rd {w : World} {S : Nat → Prop} {A : Option Addr} {n c : Nat} {l : List Int} (h : Rd w S 1 A n c (rc l)) : RunesV w (.slice A n c) l := ⟨A, n, c, rfl, h.more fun _ _ => trivial⟩
theorem RunesV.below {w w' : World} {v : Value} {l : List Int} (h : RunesV w v l) (hb : Below w.heap.size w w') : RunesV w' v l := by
  obtain ⟨A, n, c, rfl, hr⟩ := h
  exact ⟨A, n, c, rfl, hr.below hb⟩
theorem RunesV.alloc {w : World} {v : Value} {l : List Int} (h : RunesV w v l) (o : Obj) : RunesV (w.alloc o) v l := by
  obtain ⟨A, n, c, rfl, hr⟩ := h
  exact ⟨A, n, c, rfl, hr.alloc o⟩
structure RowsV (w : World) (A : Option Addr) (n c : Nat) (ls : List (List Int)) (vs : List Value) : Prop where
  rd : Rd w (fun _ => True) 1 A n c vs
  len : vs.length = ls.length
  each : ∀ (i : Nat) (v : Value) (l : List Int), vs[i]? = some v → ls[i]? = some l → RunesV w v l
theorem RowsV.below {w w' : World} {A : Option Addr} {n c : Nat} {ls : List (List Int)} {vs : List Value} (h : RowsV w A n c ls vs) (hb : Below w.heap.size w w') : RowsV w' A n c ls vs :=
  ⟨h.rd.below hb, h.len, fun i v l h1 h2 => (h.each i v l h1 h2).below hb⟩
def sumLen (ls : List (List Int)) : Nat := (ls.map List.length).sum
theorem sumLen_succ (ls : List (List Int)) (j : Nat) (hj : j < ls.length) : sumLen (ls.take (j + 1)) = sumLen (ls.take j) + ls[j].length := by
  rw [sumLen, List.take_succ_eq_append_getElem hj]
  simp only [sumLen, List.map_append, List.sum_append, List.map_cons, List.map_nil, List.sum_cons, List.sum_nil, Nat.add_zero]
theorem sumLen_le (ls : List (List Int)) (j : Nat) : sumLen (ls.take j) ≤ sumLen ls := by
  have : ls = ls.take j ++ ls.drop j := (List.take_append_drop j ls).symm
  conv => rhs; rw [this]
  simp only [sumLen, List.map_append, List.sum_append]
  omega
theorem flat_succ (ls : List (List Int)) (j : Nat) (hj : j < ls.length) : (ls.take (j + 1)).flatten = (ls.take j).flatten ++ ls[j] := by
  rw [List.take_succ_eq_append_getElem hj, List.flatten_append]
  simp only [List.flatten_cons, List.flatten_nil, List.append_nil]
theorem sumLen_flat (ls : List (List Int)) : ls.flatten.length = sumLen ls := by rw [List.length_flatten, sumLen]
set_option maxHeartbeats 1000000 in
set_option maxRecDepth 100000 in
theorem Concat_any (A : Option Addr) (n c : Nat) (ls : List (List Int)) (vs : List Value) (w : World) (hr : RowsV w A n c ls vs) (hsum : sumLen ls ≤ 1000000000) :
    Calls Tryz.prog 54 #[.slice A n c] w fun e w' => ∃ v, e = .returned v ∧ (∃ n', w'.ownsRow w.heap.size 21 1 v n' (rc ls.flatten)) ∧ Below w.heap.size w w' := by
  have hle := hr.rd.le
  have hmx : c ≤ 9223372036854775807 := hr.rd.max
  have hl : n = ls.length := by have := hr.rd.len; have := hr.len; omega
  subst hl
  have HR := Lib.hid hr
  clear hr
  go_enter Tryz.func54, Tryz.ntmps54
  go_wp2
  go_loopw [3, 11] (fun s i wr => ∃ (j : Nat), j ≤ ls.length ∧ i = .int .i64 j ∧ s = .int .i64 (sumLen (ls.take j) : Nat) ∧ Hid (w = wr)) (fun _ i _ => ls.length - (intOf i).toNat)
  case atStart => exact ⟨0, Nat.zero_le _, rfl, rfl, rfl⟩
  case round =>
    obtain ⟨j, hj, rfl, rfl, HW⟩ := hrel
    have hw := HW.out
    subst hw
    have hs1 := sumLen_le ls j
    by_cases hlt : j < ls.length
    · obtain ⟨b, o, u, rfl, _, hu, hc⟩ := HR.out.rd.one hlt
      obtain ⟨A', n', c', rfl, hrj⟩ := HR.out.each j u ls[j] hu (List.getElem?_eq_getElem hlt)
      have hn' : n' = ls[j].length := by have := hrj.len; simpa using this.symm
      have hs2 := sumLen_le ls (j + 1)
      have hs3 := sumLen_succ ls j hlt
      rw [← hn'] at hs3
      have HS := Lib.hid hs3
      have hs4 : sumLen (ls.take j) + n' ≤ 1000000000 := by omega
      have hc' : c' ≤ 9223372036854775807 := hrj.max
      clear hs3 hs2 hn' hu hrj
      go_wp2
      go_roundw
      case rel => exact ⟨j + 1, by omega, by go_num, by rw [HS.out]; go_num, by first | rfl | exact trivial⟩
      case measure => simp [intOf]; omega
    · have e : ls.take j = ls := List.take_of_length_le (by omega)
      rw [e] at hs1 ⊢
      clear e
      generalize hsz : sumLen ls = sz at hs1 hsum
      have HSZ := Lib.hid hsz
      clear hsz
      go_wp2_with fail
      refine (GrowNil_any sz w hsum).mono ?_
      rintro e w1 ⟨v1, rfl, hown1, hb1⟩
      obtain ⟨A1, c1, rfl, _⟩ := own_form hown1
      have HO1 := Lib.hid hown1
      have HB1 := Lib.hid hb1
      clear hown1 hb1
      go_wp2
      go_loopw [6, 27] (fun v i wr => ∃ (k : Nat), k ≤ ls.length ∧ i = .int .i64 k ∧ Hid (∃ n', wr.ownsRow w.heap.size 21 1 v n' (rc (ls.take k).flatten)) ∧ Hid (Below w.heap.size w wr)) (fun _ i _ => ls.length - (intOf i).toNat)
      case atStart => exact ⟨0, Nat.zero_le _, rfl, ⟨_, by simpa using HO1.out⟩, HB1.out⟩
      case round =>
        obtain ⟨k, hk, rfl, HO, HB⟩ := hrel
        obtain ⟨no, HO⟩ := HO.out
        have hno : no = (ls.take k).flatten.length := rc_own_len HO
        have hno2 : no ≤ 1000000000 := by
          have := sumLen_le ls k
          rw [hno, sumLen_flat]
          have := HSZ.out
          omega
        obtain ⟨Ao, co, rfl, hro⟩ := own_form HO
        have hco : co ≤ 9223372036854775807 := hro.max
        have HO := Lib.hid HO
        have HNO := Lib.hid hno
        clear hro hno
        by_cases hlt2 : k < ls.length
        · obtain ⟨b, o, u, rfl, _, hu, hc⟩ := (HR.out.rd.below HB.out).one hlt2
          obtain ⟨A', n', c', rfl, hrj⟩ := HR.out.each k u ls[k] hu (List.getElem?_eq_getElem hlt2)
          have hs2 := sumLen_le ls (k + 1)
          have hs3 := sumLen_succ ls k hlt2
          have hn' : n' = ls[k].length := by have := hrj.len; simpa using this.symm
          have hlen : no + n' ≤ 1000000000 := by
            have h1 := HNO.out
            have h2 := HSZ.out
            rw [sumLen_flat] at h1
            omega
          have HF := Lib.hid (flat_succ ls k hlt2)
          have HJ := Lib.hid (hrj.below HB.out)
          clear hs2 hs3 hn' hrj hu
          go_wp2_with (first
            | (at_builtin
               refine append_runes _ rfl (.tmp 31) (.tmp 32) rfl w.heap.size _ _ (ls.take k).flatten rfl HO.out _ _ n' _ ls[k] rfl HJ.out hlen HB.out.size ?_
               intro A2 c2 w2 hown2 hg2 _ _
               have HB2 := Lib.hid (below_own HB.out HB.out.size HO.out hg2)
               have HO2 := Lib.hid hown2
               clear hown2 hg2))
          go_roundw
          case rel => exact ⟨k + 1, by omega, by go_num, ⟨_, by rw [HF.out]; exact HO2.out⟩, HB2.out⟩
          case measure => simp [intOf]; omega
        · have e : ls.take k = ls := List.take_of_length_le (by omega)
          rw [e] at HO
          clear e
          go_wp2
          go_ret
          exact ⟨_, rfl, ⟨_, HO.out⟩, HB.out⟩
end Go.Proofs.YtlnojpllgclgfaaGreat
namespace Go.Proofs.YtlnojpllgclgfaaGreat
open Go.RowKit Go.Lib
theorem itemCells_get : ∀ (o : List (Int × Nat × Nat)) (k : Nat), (h : k < o.length) →
    (itemCells o)[k * 3]? = some (.int .i32 o[k].1) ∧ (itemCells o)[k * 3 + 1]? = some (.int .i64 o[k].2.1) ∧ (itemCells o)[k * 3 + 2]? = some (.int .i64 o[k].2.2)
  | [], _, h => absurd h (by simp)
  | x :: t, 0, _ => ⟨rfl, rfl, rfl⟩
  | x :: t, k + 1, h => by
    have ih := itemCells_get t k (by simpa using h)
    have e : ∀ i, (itemCells (x :: t))[(k + 1) * 3 + i]? = (itemCells t)[k * 3 + i]? := fun i => by
      show (Value.int .i32 x.1 :: .int .i64 x.2.1 :: .int .i64 x.2.2 :: itemCells t)[(k + 1) * 3 + i]? = _
      rw [show (k + 1) * 3 + i = (k * 3 + i) + 1 + 1 + 1 by omega]
      rfl
    refine ⟨(e 0).trans ih.1, (e 1).trans ih.2.1, (e 2).trans ih.2.2⟩
theorem Rd.item {w : World} {S : Nat → Prop} {n c : Nat} {A : Option Addr} {o : List (Int × Nat × Nat)} (h : Rd w S 3 A n c (itemCells o)) {k : Nat} (hk : k < o.length) :
    ∃ b u, A = some ⟨b, u, none⟩ ∧ S b ∧ w.cell? ⟨b, u + k * 3, none⟩ = some (.int .i32 o[k].1) ∧ w.cell? ⟨b, u + k * 3 + 1, none⟩ = some (.int .i64 o[k].2.1) ∧ w.cell? ⟨b, u + k * 3 + 2, none⟩ = some (.int .i64 o[k].2.2) := by
  have hl := h.len
  rw [itemCells_len] at hl
  obtain ⟨b, u, e, hb, hc⟩ := h.at_ (by omega)
  obtain ⟨h1, h2, h3⟩ := itemCells_get o k hk
  exact ⟨b, u, e, hb, hc _ _ h1, hc _ _ h2, hc _ _ h3⟩
theorem runesF_len (l : List UInt8) : (runesF l).length ≤ l.length := by
  rw [runesF, List.length_map]
  exact items_len _ _ _
set_option maxHeartbeats 1000000 in
set_option maxRecDepth 100000 in
theorem NRunes_any (s : ByteArray) (w : World) (hlen : s.size ≤ 300000000) :
    Calls Tryz.prog 81 #[.string s] w fun e w' => ∃ v, e = .returned v ∧ (∃ n', w'.ownsRow w.heap.size 21 1 v n' (rc (runesF s.data.toList))) ∧ Below w.heap.size w w' := by
  obtain ⟨A0, c0, w1, hcv, hr, hb, hc0⟩ := run_string_bytes (P := Tryz.prog) w s 9 49 5 Tryz.underlying9 Tryz.underlying49 Tryz.underlying5 (by omega)
  have hll : s.data.toList.length = s.size := by simp
  generalize s.data.toList = l at hr hll ⊢
  have HR := Lib.hid hr
  have HB1 := Lib.hid hb
  clear hr hb
  go_enter Tryz.func81, Tryz.ntmps81
  go_wp2_with fail
  refine (Items_any _ A0 s.size c0 l w1 HR.out (by omega)).mono ?_
  rintro e w2 ⟨v, rfl, ⟨n', hown⟩, hb2⟩
  obtain ⟨A, c, rfl, hro⟩ := own_form hown
  have hn : n' = (itemsF l).length := by have := hown.1; rw [itemCells_len] at this; omega
  have hil : (itemsF l).length ≤ l.length := items_len _ _ _
  have hco : c ≤ 9223372036854775807 := hro.max
  have hle := hro.le
  have HRF : Hid (runesF l = (itemsF l).map (·.1)) := rfl
  have HRO := Lib.hid hro
  have HB2 := Lib.hid (HB1.out.trans (hb2.mono HB1.out.size))
  clear hro hb2 hown
  generalize itemsF l = its at hn hil HRF HRO
  subst hn
  go_wp2
  go_loopw [3, 10] (fun v i wr => ∃ (k : Nat), k ≤ its.length ∧ i = .int .i64 k ∧ Hid (∃ n', wr.ownsRow w2.heap.size 21 1 v n' (rc ((its.take k).map (·.1)))) ∧ Hid (Below w2.heap.size w2 wr))
    (fun _ i _ => its.length - (intOf i).toNat)
  case atStart => exact ⟨0, Nat.zero_le _, rfl, ⟨0, by simpa using World.ownsRow_nil w2 w2.heap.size 21 1⟩, Below.refl _ _⟩
  case round =>
    obtain ⟨k, hk, rfl, HO, HB⟩ := hrel
    obtain ⟨no, HO⟩ := HO.out
    have hno : no = k := by have := rc_own_len HO; simp at this; omega
    subst hno
    obtain ⟨Ao, co, rfl, hro⟩ := own_form HO
    have hco2 : co ≤ 9223372036854775807 := hro.max
    have HO := Lib.hid HO
    clear hro
    by_cases hlt : no < its.length
    · obtain ⟨b, u, rfl, hbb, hc0, hc1, hc2⟩ := (HRO.out.below HB.out).item hlt
      have htk : (its.take (no + 1)).map (·.1) = (its.take no).map (·.1) ++ [its[no].1] := by rw [List.take_succ_eq_append_getElem hlt, List.map_append]; rfl
      have HTK := Lib.hid htk
      clear htk
      generalize its[no].1 = r0 at hc0 HTK
      generalize its[no].2.1 = r1 at hc1
      generalize its[no].2.2 = r2 at hc2
      go_wp2_with (first
        | (at_builtin
           refine append_runes _ rfl (.tmp 14) (.tmp 17) rfl w2.heap.size _ _ _ rfl ((HO.out.alloc _).alloc _) _ _ 1 1 [r0] rfl (Rd.litN _ (wr.heap.size + 1) (by simp) _ #[.int .i32 r0] 1 1 rfl (by decide)) (by omega) (by have := HB.out.size; simp; omega) ?_
           intro A4 c4 w4 hown4 hg4 _ _
           have hb4 := below_own ((HB.out.alloc HB.out.size _).alloc (by have := HB.out.size; simp; omega) _) (by have := HB.out.size; simp; omega) ((HO.out.alloc _).alloc _) hg4
           have HB4 := Lib.hid hb4
           have HO4 := Lib.hid hown4
           clear hown4 hg4 hb4))
      go_roundw
      case rel => exact ⟨no + 1, by omega, by go_num, ⟨_, by rw [HTK.out]; exact HO4.out⟩, HB4.out⟩
      case measure => simp [intOf]; omega
    · have e : its.take no = its := List.take_of_length_le (by omega)
      have HE : Hid (runesF l = (its.take no).map (·.1)) := by rw [Hid, HRF.out, e]
      go_wp2
      go_ret
      exact ⟨_, rfl, ⟨_, by rw [HE.out]; exact own_base HO.out (by have := HB2.out.size; omega)⟩, HB2.out.trans (HB.out.mono HB2.out.size)⟩
set_option maxHeartbeats 1000000 in
set_option maxRecDepth 100000 in
theorem RRunes_any (s : ByteArray) (w : World) (hlen : s.size ≤ 300000000) :
    Calls Tryz.prog 86 #[.string s] w fun e w' => ∃ v, e = .returned v ∧ (∃ n', w'.ownsRow w.heap.size 21 1 v n' (rc (runesF s.data.toList))) ∧ Below w.heap.size w w' := by
  obtain ⟨A0, c0, w1, hcv, hr, hb, hc0⟩ := run_string_bytes (P := Tryz.prog) w s 9 49 5 Tryz.underlying9 Tryz.underlying49 Tryz.underlying5 (by omega)
  have hll : s.data.toList.length = s.size := by simp
  generalize s.data.toList = l at hr hll ⊢
  have HR := Lib.hid hr
  have HB1 := Lib.hid hb
  clear hr hb
  go_enter Tryz.func86, Tryz.ntmps86
  go_wp2_with fail
  refine (RItems_any _ A0 s.size c0 l w1 HR.out (by omega)).mono ?_
  rintro e w2 ⟨v, rfl, ⟨n', hown⟩, hb2⟩
  obtain ⟨A, c, rfl, hro⟩ := own_form hown
  have hn : n' = (itemsF l).length := by have := hown.1; rw [itemCells_len] at this; omega
  have hil : (itemsF l).length ≤ l.length := items_len _ _ _
  have hco : c ≤ 9223372036854775807 := hro.max
  have hle := hro.le
  have HRF : Hid (runesF l = (itemsF l).map (·.1)) := rfl
  have HRO := Lib.hid hro
  have HB2 := Lib.hid (HB1.out.trans (hb2.mono HB1.out.size))
  clear hro hb2 hown
  generalize itemsF l = its at hn hil HRF HRO
  subst hn
  go_wp2
  go_loopw [3, 10] (fun v i wr => ∃ (k : Nat), k ≤ its.length ∧ i = .int .i64 k ∧ Hid (∃ n', wr.ownsRow w2.heap.size 21 1 v n' (rc ((its.take k).map (·.1)))) ∧ Hid (Below w2.heap.size w2 wr))
    (fun _ i _ => its.length - (intOf i).toNat)
  case atStart => exact ⟨0, Nat.zero_le _, rfl, ⟨0, by simpa using World.ownsRow_nil w2 w2.heap.size 21 1⟩, Below.refl _ _⟩
  case round =>
    obtain ⟨k, hk, rfl, HO, HB⟩ := hrel
    obtain ⟨no, HO⟩ := HO.out
    have hno : no = k := by have := rc_own_len HO; simp at this; omega
    subst hno
    obtain ⟨Ao, co, rfl, hro⟩ := own_form HO
    have hco2 : co ≤ 9223372036854775807 := hro.max
    have HO := Lib.hid HO
    clear hro
    by_cases hlt : no < its.length
    · obtain ⟨b, u, rfl, hbb, hc0, hc1, hc2⟩ := (HRO.out.below HB.out).item hlt
      have htk : (its.take (no + 1)).map (·.1) = (its.take no).map (·.1) ++ [its[no].1] := by rw [List.take_succ_eq_append_getElem hlt, List.map_append]; rfl
      have HTK := Lib.hid htk
      clear htk
      generalize its[no].1 = r0 at hc0 HTK
      generalize its[no].2.1 = r1 at hc1
      generalize its[no].2.2 = r2 at hc2
      go_wp2_with (first
        | (at_builtin
           refine append_runes _ rfl (.tmp 14) (.tmp 17) rfl w2.heap.size _ _ _ rfl ((HO.out.alloc _).alloc _) _ _ 1 1 [r0] rfl (Rd.litN _ (wr.heap.size + 1) (by simp) _ #[.int .i32 r0] 1 1 rfl (by decide)) (by omega) (by have := HB.out.size; simp; omega) ?_
           intro A4 c4 w4 hown4 hg4 _ _
           have hb4 := below_own ((HB.out.alloc HB.out.size _).alloc (by have := HB.out.size; simp; omega) _) (by have := HB.out.size; simp; omega) ((HO.out.alloc _).alloc _) hg4
           have HB4 := Lib.hid hb4
           have HO4 := Lib.hid hown4
           clear hown4 hg4 hb4))
      go_roundw
      case rel => exact ⟨no + 1, by omega, by go_num, ⟨_, by rw [HTK.out]; exact HO4.out⟩, HB4.out⟩
      case measure => simp [intOf]; omega
    · have e : its.take no = its := List.take_of_length_le (by omega)
      have HE : Hid (runesF l = (its.take no).map (·.1)) := by rw [Hid, HRF.out, e]
      go_wp2
      go_ret
      exact ⟨_, rfl, ⟨_, by rw [HE.out]; exact own_base HO.out (by have := HB2.out.size; omega)⟩, HB2.out.trans (HB.out.mono HB2.out.size)⟩
end Go.Proofs.YtlnojpllgclgfaaGreat
namespace Go.Proofs.YtlnojpllgclgfaaGreat
open Go.RowKit
def isSpace (r : Int) : Bool := r == 32 || r == 9 || r == 10 || r == 13
set_option maxHeartbeats 400000 in
theorem Space_any (r : Int) (w : World) : Calls Tryz.prog 37 #[.int .i32 r] w fun e w' => e = .returned (.bool (isSpace r)) ∧ w = w' := by
  go_enter Tryz.func37, Tryz.ntmps37
  go_wp2
  all_goals (go_ret; exact ⟨ret_bool (by simp [isSpace, *]), rfl⟩)
theorem eql_is (fn : Fn) (a b : Array Value) (w : World) : (binOp .eql 47 (.func fn a b) .nilFunc).run Tryz.prog w = .ok (.bool false) w := by kernel_rfl
theorem neq_is (fn : Fn) (a b : Array Value) (w : World) : (binOp .neq 47 (.func fn a b) .nilFunc).run Tryz.prog w = .ok (.bool true) w := by kernel_rfl
def runF (p : Int → Bool) (l : List Int) : Int → Nat := fun from_ => if from_ < 0 ∨ (l.length : Int) < from_ then 0 else ((l.drop from_.toNat).takeWhile p).length
theorem takeWhile_at {p : Int → Bool} (l : List Int) (k : Nat) (hk : k < l.length) (hp : p l[k] = false) (h : ∀ j, (hj : j < k) → p (l[j]'(by omega)) = true) : (l.takeWhile p).length = k := by
  induction l generalizing k with
  | nil => simp at hk
  | cons a t ih =>
    cases k with
    | zero => simp at hp; simp [hp]
    | succ k =>
      have h0 : p a = true := h 0 (by omega)
      simp only [List.takeWhile_cons, h0, if_true, List.length_cons]
      rw [ih k (by simpa using hk) (by simpa using hp) (fun j hj => by have := h (j + 1) (by omega); simpa using this)]
theorem takeWhile_all {p : Int → Bool} (l : List Int) (h : ∀ j, (hj : j < l.length) → p l[j] = true) : (l.takeWhile p).length = l.length := by
  induction l with
  | nil => rfl
  | cons a t ih =>
    have h0 : p a = true := h 0 (by simp)
    simp only [List.takeWhile_cons, h0, if_true, List.length_cons]
    rw [ih (fun j hj => by have := h (j + 1) (by simp; omega); simpa using this)]
theorem takeWhile_eq_all (p : Int → Bool) (l : List Int) : ((l.takeWhile p).length == l.length) = l.all p := by
  induction l with
  | nil => rfl
  | cons a t ih =>
    cases h : p a with
    | true => simpa [List.takeWhile_cons, h] using ih
    | false => simp [h]
set_option maxHeartbeats 1000000 in
set_option maxRecDepth 100000 in
theorem Run_any (S : Nat → Prop) (A : Option Addr) (n c : Nat) (l : List Int) (from_ : Int) (g : Nat) (caps : Array Value) (p : Int → Bool) (w : World)
    (eg : ∀ args w, (callFunc g args).run Tryz.prog w = .ok (.enter g args) w)
    (hr : Rd w S 1 A n c (rc l)) (hp : PredOk Tryz.prog g caps p w) :
    Calls Tryz.prog 36 #[.slice A n c, .int .i64 from_, .func (.func g) #[] caps] w fun e w' => e = .returned (.int .i64 (runF p l from_)) ∧ Below w.heap.size w w' := by
  have hl : n = l.length := by have := hr.len; simpa using this.symm
  have hle := hr.le
  have hmx := hr.max
  have hmx : c ≤ 9223372036854775807 := hmx
  subst hl
  have heq := eql_is (.func g) #[] caps
  by_cases h1 : from_ < 0
  · go_enter Tryz.func36, Tryz.ntmps36
    go_wp2
    go_ret
    exact ⟨ret_int (by simp [runF, h1]), Below.refl _ _⟩
  · by_cases h2 : (l.length : Int) < from_
    · go_enter Tryz.func36, Tryz.ntmps36
      go_wp2
      go_ret
      exact ⟨ret_int (by simp [runF, h2]), Below.refl _ _⟩
    · obtain ⟨k, rfl⟩ := Int.eq_ofNat_of_zero_le (show 0 ≤ from_ by omega)
      have hk : k ≤ l.length := by omega
      obtain ⟨A', hr2, hsl⟩ := hr.cutL Tryz.underlying22 (fun _ => by simp [go_sem]) hk (P := Tryz.prog)
      have hrest : (rc l).drop (k * 1) = rc (l.drop k) := by simp [rc]
      rw [hrest] at hr2
      have HF : Hid (runF p l (k : Int) = ((l.drop k).takeWhile p).length) := Lib.hid (by simp [runF, h1, h2])
      have HR := Lib.hid hr2
      have HP := Lib.hid hp
      have hd1 : decide ((k : Int) < 0) = false := by simp
      have hd2 : decide (l.length < k) = false := by simp; omega
      clear h1 h2 hrest hr hr2 hp
      go_enter Tryz.func36, Tryz.ntmps36
      go_wp2
      obtain ⟨m, hm⟩ : ∃ m, m = l.drop k := ⟨_, rfl⟩
      have hml : m.length = l.length - k := by rw [hm]; simp
      rw [← hm] at HR HF
      clear hm
      have HML := Lib.hid hml
      clear hml
      go_loopw [25] (fun i wr => ∃ j : Nat, j ≤ l.length - k ∧ i = .int .i64 j ∧ Hid (Below w.heap.size w wr) ∧ Hid (∀ q, q < j → ∀ h : q < m.length, p m[q] = true)) (fun i _ => l.length - (intOf i).toNat)
      case atStart => exact ⟨0, Nat.zero_le _, rfl, Below.refl _ _, fun q hq => absurd hq (by omega)⟩
      case round =>
        obtain ⟨j, hj, rfl, HB, HQ⟩ := hrel
        by_cases hlt : j < l.length - k
        · obtain ⟨b, o, u, rfl, _, hu, hc⟩ := (HR.out.below HB.out).one hlt
          obtain ⟨hjm, rfl⟩ := rc_get hu
          clear hu
          have hcall := HP.out wr m[j] HB.out
          cases hq : p m[j] with
          | true =>
            rw [hq] at hcall
            have HCALL := Lib.hid hcall
            have HQ1 := Lib.hid hq
            clear hq hcall
            generalize m[j] = r at hc HCALL
            go_wp2_with (go_at_fn g; refine HCALL.out.mono ?_; rintro e w' ⟨rfl, hb'⟩)
            go_roundw
            case rel => exact ⟨j + 1, by omega, by go_num, below_all HB.out hb', fun q hq h => by
              rcases Nat.lt_succ_iff_lt_or_eq.1 hq with h1 | h1
              · exact HQ.out q h1 h
              · subst h1; exact HQ1.out⟩
            case measure => simp [intOf]; omega
          | false =>
            rw [hq] at hcall
            have HCALL := Lib.hid hcall
            have HQ1 := Lib.hid hq
            clear hq hcall
            generalize m[j] = r at hc HCALL
            go_wp2_with (go_at_fn g; refine HCALL.out.mono ?_; rintro e w' ⟨rfl, hb'⟩)
            go_ret
            refine ⟨ret_int ?_, below_all HB.out hb'⟩
            rw [HF.out, takeWhile_at m j hjm HQ1.out (fun q hq => HQ.out q hq (by omega))]
        · go_wp2
          go_ret
          refine ⟨ret_int ?_, HB.out⟩
          have hm := HML.out
          rw [HF.out, takeWhile_all m (fun q hq => HQ.out q (by omega) hq)]
          omega
theorem All_any (S : Nat → Prop) (A : Option Addr) (n c : Nat) (l : List Int) (g : Nat) (caps : Array Value) (p : Int → Bool) (w : World)
    (eg : ∀ args w, (callFunc g args).run Tryz.prog w = .ok (.enter g args) w)
    (hr : Rd w S 1 A n c (rc l)) (hp : PredOk Tryz.prog g caps p w) :
    Calls Tryz.prog 30 #[.slice A n c, .func (.func g) #[] caps] w fun e w' => e = .returned (.bool (l.all p)) ∧ Below w.heap.size w w' := by
  have hl : n = l.length := by have := hr.len; simpa using this.symm
  have hle := hr.le
  have hmx : c ≤ 9223372036854775807 := hr.max
  subst hl
  have heq := neq_is (.func g) #[] caps
  have HC := Lib.hid (Run_any S A l.length c l 0 g caps p w eg hr hp)
  clear hr hp
  go_enter Tryz.func30, Tryz.ntmps30
  go_wp2_with (go_at_call 36; refine HC.out.mono ?_; rintro e w' ⟨rfl, hb'⟩)
  go_ret
  refine ⟨ret_bool ?_, hb'⟩
  have h := takeWhile_eq_all p l
  have e0 : runF p l 0 = (l.takeWhile p).length := by
    simp only [runF, Int.toNat_zero, List.drop_zero]
    rw [if_neg (by omega)]
  rw [e0, ← h]
  rw [Bool.eq_iff_iff]
  simp only [beq_iff_eq]
  omega
abbrev spanCells (sp : List (Int × Int)) : List Value := sp.flatMap fun x => [.int .i32 x.1, .int .i32 x.2]
def inSp (r : Int) (sp : List (Int × Int)) : Bool := sp.any fun x => decide (x.1 ≤ r) && decide (r ≤ x.2)
theorem spanCells_get (sp : List (Int × Int)) (j : Nat) (hj : j < sp.length) : (spanCells sp)[j * 2]? = some (.int .i32 sp[j].1) ∧ (spanCells sp)[j * 2 + 1]? = some (.int .i32 sp[j].2) := by
  induction sp generalizing j with
  | nil => simp at hj
  | cons a t ih =>
    cases j with
    | zero => simp [spanCells]
    | succ j =>
      have := ih j (by simpa using hj)
      have e1 : (j + 1) * 2 = j * 2 + 2 := by omega
      rw [e1]
      simpa [spanCells] using this
theorem inSp_succ (r : Int) (sp : List (Int × Int)) (j : Nat) (hj : j < sp.length) :
    inSp r (sp.take (j + 1)) = (inSp r (sp.take j) || (decide (sp[j].1 ≤ r) && decide (r ≤ sp[j].2))) := by
  simp only [inSp, List.take_succ_eq_append_getElem hj, List.any_append]
  simp
theorem inSp_hit (r : Int) (sp : List (Int × Int)) (j : Nat) (hj : j < sp.length) (h1 : sp[j].1 ≤ r) (h2 : r ≤ sp[j].2) : inSp r sp = true := by
  simp only [inSp, List.any_eq_true]
  exact ⟨sp[j], List.getElem_mem hj, by simp [h1, h2]⟩
set_option maxHeartbeats 1000000 in
set_option maxRecDepth 100000 in
theorem in_any (S : Nat → Prop) (A : Option Addr) (n c : Nat) (r : Int) (sp : List (Int × Int)) (w : World) (hr : Rd w S 2 A n c (spanCells sp)) (hn : n = sp.length) :
    Calls Tryz.prog 59 #[.int .i32 r, .slice A n c] w fun e w' => e = .returned (.bool (inSp r sp)) ∧ Below w.heap.size w w' := by
  have hle := hr.le
  have hmx : c ≤ 9223372036854775807 := hr.max
  subst hn
  have HR := Lib.hid hr
  clear hr
  go_enter Tryz.func59, Tryz.ntmps59
  go_wp2
  go_loopw [9] (fun i wr => ∃ j : Nat, j ≤ sp.length ∧ i = .int .i64 j ∧ Hid (Below w.heap.size w wr) ∧ Hid (inSp r (sp.take j) = false)) (fun i _ => sp.length - (intOf i).toNat)
  case atStart => exact ⟨0, Nat.zero_le _, rfl, Below.refl _ _, rfl⟩
  case round =>
    obtain ⟨j, hj, rfl, HB, HQ⟩ := hrel
    by_cases hlt : j < sp.length
    · obtain ⟨b, o, rfl, _, hcs⟩ := (HR.out.below HB.out).at_ (by omega)
      obtain ⟨g0, g1⟩ := spanCells_get sp j hlt
      have hc0 := hcs _ _ g0
      have hc1 : wr.cell? ⟨b, o + j * 2 + 1, none⟩ = _ := hcs _ _ g1
      clear g0 g1 hcs
      generalize e0 : sp[j].1 = lo at hc0
      generalize e1 : sp[j].2 = hi at hc1
      have HS := Lib.hid (inSp_succ r sp j hlt)
      rw [e0, e1] at HS
      have HN := Lib.hid (inSp_hit r sp j hlt)
      rw [e0, e1] at HN
      clear e0 e1
      go_wp2
      · go_ret
        exact ⟨ret_bool (by rw [HN.out (by assumption) (by assumption)]), (HB.out.alloc HB.out.size _).trans (Below.refl _ _)⟩
      · go_roundw
        case rel =>
          have h : hi < r := by assumption
          exact ⟨j + 1, by omega, by go_num, HB.out.alloc HB.out.size _, by rw [Hid, HS.out, HQ.out]; simp; omega⟩
        case measure => simp [intOf]; omega
      · go_roundw
        case rel =>
          have h : ¬ lo ≤ r := by assumption
          exact ⟨j + 1, by omega, by go_num, HB.out.alloc HB.out.size _, by rw [Hid, HS.out, HQ.out]; simp; omega⟩
        case measure => simp [intOf]; omega
    · have e : sp.take j = sp := List.take_of_length_le (by omega)
      rw [e] at HQ
      clear e
      go_wp2
      go_ret
      exact ⟨ret_bool HQ.out.symm, HB.out⟩
end Go.Proofs.YtlnojpllgclgfaaGreat
namespace Go.Proofs.YtlnojpllgclgfaaGreat
open Go.RowKit
def charSp : List (Int × Int) := [(0x20, 0xD7FF), (0x9, 0xA), (0xD, 0xD), (0xE000, 0xFFFD), (0x10000, 0x10FFFF)]
def startSp : List (Int × Int) := [(97, 122), (65, 90), (58, 58), (95, 95), (0xC0, 0xD6), (0xD8, 0xF6), (0xF8, 0x2FF), (0x370, 0x37D),
  (0x37F, 0x1FFF), (0x200C, 0x200D), (0x2070, 0x218F), (0x2C00, 0x2FEF), (0x3001, 0xD7FF), (0xF900, 0xFDCF), (0xFDF0, 0xFFFD), (0x10000, 0xEFFFF)]
def moreSp : List (Int × Int) := [(48, 57), (45, 46), (0xB7, 0xB7), (0x300, 0x36F), (0x203F, 0x2040)]
def isChar (r : Int) : Bool := inSp r charSp
def isNameStart (r : Int) : Bool := inSp r startSp
def isNameChar (r : Int) : Bool := isNameStart r || inSp r moreSp
set_option maxHeartbeats 400000 in
set_option maxRecDepth 100000 in
theorem Char_any (r : Int) (w : World) : Calls Tryz.prog 31 #[.int .i32 r] w fun e w' => e = .returned (.bool (isChar r)) ∧ Below w.heap.size w w' := by
  go_enter Tryz.func31, Tryz.ntmps31
  go_wp2_with fail
  refine (in_any _ _ 5 5 r charSp _ (Rd.lit w _ _ 2 5 rfl (by decide)) rfl).mono ?_
  rintro e w' ⟨rfl, hb⟩
  go_wp2
  go_ret
  exact ⟨rfl, below_all ((Below.refl _ _).alloc (Nat.le_refl _) _) hb⟩
set_option maxHeartbeats 400000 in
set_option maxRecDepth 100000 in
theorem NameStart_any (r : Int) (w : World) : Calls Tryz.prog 60 #[.int .i32 r] w fun e w' => e = .returned (.bool (isNameStart r)) ∧ Below w.heap.size w w' := by
  go_enter Tryz.func60, Tryz.ntmps60
  go_wp2_with fail
  refine (in_any _ _ 16 16 r startSp _ (Rd.lit w _ _ 2 16 rfl (by decide)) rfl).mono ?_
  rintro e w' ⟨rfl, hb⟩
  go_wp2
  go_ret
  exact ⟨rfl, below_all ((Below.refl _ _).alloc (Nat.le_refl _) _) hb⟩
set_option maxHeartbeats 400000 in
set_option maxRecDepth 100000 in
theorem NameChar_any (r : Int) (w : World) : Calls Tryz.prog 61 #[.int .i32 r] w fun e w' => e = .returned (.bool (isNameChar r)) ∧ Below w.heap.size w w' := by
  have HN := Lib.hid (NameStart_any r w)
  cases hq : isNameStart r with
  | true =>
    rw [hq] at HN
    have HI : Hid (isNameChar r = true) := by rw [Hid, isNameChar, hq]; rfl
    clear hq
    go_enter Tryz.func61, Tryz.ntmps61
    go_wp2_with (go_at_call 60; refine HN.out.mono ?_; rintro e w' ⟨rfl, hb⟩)
    go_ret
    exact ⟨ret_bool HI.out.symm, hb⟩
  | false =>
    rw [hq] at HN
    have HI : Hid (isNameChar r = inSp r moreSp) := by rw [Hid, isNameChar, hq]; rfl
    clear hq
    go_enter Tryz.func61, Tryz.ntmps61
    go_wp2_with (go_at_call 60; refine HN.out.mono ?_; rintro e w' ⟨rfl, hb⟩)
    refine (in_any _ _ 5 5 r moreSp _ (Rd.lit w' _ _ 2 5 rfl (by decide)) rfl).mono ?_
    rintro e w2 ⟨rfl, hb2⟩
    go_wp2
    go_ret
    exact ⟨ret_bool HI.out.symm, below_all (hb.alloc hb.size _) hb2⟩
def digitF (r : Int) : Int × Bool := if r < 48 ∨ 57 < r then (0, false) else (r - 48, true)
def hexF (r : Int) : Int × Bool := if 97 ≤ r ∧ r ≤ 102 then (r - 97 + 10, true) else if 65 ≤ r ∧ r ≤ 70 then (r - 65 + 10, true) else digitF r
set_option maxHeartbeats 400000 in
set_option maxRecDepth 100000 in
theorem Digit_any (r : Int) (w : World) : Calls Tryz.prog 159 #[.int .i32 r] w fun e w' => e = .returned (.tuple #[.int .i64 (digitF r).1, .bool (digitF r).2]) ∧ w = w' := by
  by_cases h1 : r < 48
  · go_enter Tryz.func159, Tryz.ntmps159
    go_wp2
    go_ret2
    exact ⟨ret_ib (if_pos (.inl h1)), rfl⟩
  · by_cases h2 : 57 < r
    · go_enter Tryz.func159, Tryz.ntmps159
      go_wp2
      go_ret2
      exact ⟨ret_ib (if_pos (.inr h2)), rfl⟩
    · go_enter Tryz.func159, Tryz.ntmps159
      go_wp2
      go_ret2
      exact ⟨ret_ib (if_neg (by omega)), rfl⟩
set_option maxHeartbeats 400000 in
set_option maxRecDepth 100000 in
theorem Hex_any (r : Int) (w : World) : Calls Tryz.prog 142 #[.int .i32 r] w fun e w' => e = .returned (.tuple #[.int .i64 (hexF r).1, .bool (hexF r).2]) ∧ w = w' := by
  have HD := Lib.hid (Digit_any r w)
  by_cases h1 : 97 ≤ r ∧ r ≤ 102
  · obtain ⟨h2, h3⟩ := h1
    go_enter Tryz.func142, Tryz.ntmps142
    go_wp2
    go_ret2
    exact ⟨ret_ib (if_pos ⟨h2, h3⟩), rfl⟩
  · by_cases h2 : 65 ≤ r ∧ r ≤ 70
    · obtain ⟨h3, h4⟩ := h2
      have h5 : ¬ 97 ≤ r := by omega
      clear h1
      go_enter Tryz.func142, Tryz.ntmps142
      go_wp2
      go_ret2
      exact ⟨ret_ib (by rw [hexF, if_neg (by omega), if_pos ⟨h3, h4⟩]), rfl⟩
    · have HF : Hid (hexF r = digitF r) := by simp [Hid, hexF, h1, h2]
      generalize hexF r = z at HF ⊢
      generalize digitF r = y at HD HF
      by_cases h3 : 97 ≤ r
      · have h4 : ¬ r ≤ 102 := by omega
        have h5 : 65 ≤ r := by omega
        have h6 : ¬ r ≤ 70 := by omega
        clear h1 h2
        go_enter Tryz.func142, Tryz.ntmps142
        go_wp2_with (go_at_call 159; refine HD.out.mono ?_; rintro e w' ⟨rfl, rfl⟩)
        go_ret2
        exact ⟨ret_ib HF.out, rfl⟩
      · by_cases h5 : 65 ≤ r
        · have h6 : ¬ r ≤ 70 := by omega
          clear h1 h2
          go_enter Tryz.func142, Tryz.ntmps142
          go_wp2_with (go_at_call 159; refine HD.out.mono ?_; rintro e w' ⟨rfl, rfl⟩)
          go_ret2
          exact ⟨ret_ib HF.out, rfl⟩
        · clear h1 h2
          go_enter Tryz.func142, Tryz.ntmps142
          go_wp2_with (go_at_call 159; refine HD.out.mono ?_; rintro e w' ⟨rfl, rfl⟩)
          go_ret2
          exact ⟨ret_ib HF.out, rfl⟩
end Go.Proofs.YtlnojpllgclgfaaGreat
namespace Go.Proofs.YtlnojpllgclgfaaGreat
open Go.RowKit Go.Lib
def isF (r lo hi : Int) : Bool := decide (lo ≤ r) && decide (r ≤ hi)
def letterF (r : Int) : Bool := isF r 97 122 || isF r 65 90
set_option maxHeartbeats 400000 in
set_option maxRecDepth 100000 in
theorem RIs_any (r lo hi : Int) (w : World) : Calls Tryz.prog 83 #[.int .i32 r, .int .i32 lo, .int .i32 hi] w fun e w' => e = .returned (.bool (isF r lo hi)) ∧ w = w' := by
  by_cases h : lo ≤ r
  · go_enter Tryz.func83, Tryz.ntmps83
    go_wp2
    go_ret
    exact ⟨ret_bool (by simp [isF, h]), rfl⟩
  · go_enter Tryz.func83, Tryz.ntmps83
    go_wp2
    go_ret
    exact ⟨ret_bool (by rw [isF, decide_eq_false (by omega)]; rfl), rfl⟩
theorem isChar_spec (r : Int) : isChar r = (r == 9 || r == 10 || r == 13 || isF r 32 55295 || isF r 57344 65533 || isF r 65536 1114111) := by
  rw [Bool.eq_iff_iff]; simp [isChar, inSp, charSp, isF]; omega
theorem letter_spec (r : Int) : letterF r = (isF r 97 122 || isF r 65 90) := rfl
theorem start_spec (r : Int) : isNameStart r = (letterF r || r == 58 || r == 95 || (if isF r 192 767 then r != 215 && r != 247 else if isF r 880 8191 then r != 894 else
    isF r 8204 8205 || isF r 8304 8591 || isF r 11264 12271 || isF r 12289 55295 || (isF r 63744 64975 || isF r 65008 65533 || isF r 65536 983039))) := by
  rw [Bool.eq_iff_iff]
  by_cases h1 : isF r 192 767 = true
  · rw [if_pos h1]
    simp [isF] at h1
    simp [isNameStart, inSp, startSp, isF, letterF]; omega
  · rw [if_neg h1]
    simp [isF] at h1
    by_cases h2 : isF r 880 8191 = true
    · rw [if_pos h2]
      simp [isF] at h2
      simp [isNameStart, inSp, startSp, isF, letterF]; omega
    · rw [if_neg h2]
      simp [isF] at h2
      simp [isNameStart, inSp, startSp, isF, letterF]; omega
theorem more_spec (r : Int) : isNameChar r = (isNameStart r || r == 45 || r == 46 || isF r 48 57 || r == 183 || isF r 768 879 || r == 8255 || r == 8256) := by
  rw [Bool.eq_iff_iff]; simp only [isNameChar]; cases isNameStart r <;> simp [inSp, moreSp, isF] <;> omega
set_option maxHeartbeats 1000000 in
set_option maxRecDepth 100000 in
theorem RChar_any (r : Int) (w : World) : Calls Tryz.prog 65 #[.int .i32 r] w fun e w' => e = .returned (.bool (isChar r)) ∧ w = w' := by
  rw [isChar_spec]
  have HI1 := fun w => Lib.hid (RIs_any r 32 55295 w)
  have HI2 := fun w => Lib.hid (RIs_any r 57344 65533 w)
  have HI3 := fun w => Lib.hid (RIs_any r 65536 1114111 w)
  generalize isF r 32 55295 = b1 at HI1 ⊢
  generalize isF r 57344 65533 = b2 at HI2 ⊢
  generalize isF r 65536 1114111 = b3 at HI3 ⊢
  go_enter Tryz.func65, Tryz.ntmps65
  go_wp2_with (first
    | (go_at_call_of 83 (Value.int .i32 32); refine (HI1 _).out.mono ?_; rintro e w' ⟨rfl, rfl⟩)
    | (go_at_call_of 83 (Value.int .i32 57344); refine (HI2 _).out.mono ?_; rintro e w' ⟨rfl, rfl⟩)
    | (go_at_call_of 83 (Value.int .i32 65536); refine (HI3 _).out.mono ?_; rintro e w' ⟨rfl, rfl⟩))
  all_goals
    go_ret
    exact ⟨ret_bool (by first | rfl | simp_all), rfl⟩
set_option maxHeartbeats 1000000 in
set_option maxRecDepth 100000 in
theorem RLetter_any (r : Int) (w : World) : Calls Tryz.prog 84 #[.int .i32 r] w fun e w' => e = .returned (.bool (letterF r)) ∧ w = w' := by
  rw [letter_spec]
  have HI1 := fun w => Lib.hid (RIs_any r 97 122 w)
  have HI2 := fun w => Lib.hid (RIs_any r 65 90 w)
  generalize isF r 97 122 = b1 at HI1 ⊢
  generalize isF r 65 90 = b2 at HI2 ⊢
  go_enter Tryz.func84, Tryz.ntmps84
  go_wp2_with (first
    | (go_at_call_of 83 (Value.int .i32 97); refine (HI1 _).out.mono ?_; rintro e w' ⟨rfl, rfl⟩)
    | (go_at_call_of 83 (Value.int .i32 65); refine (HI2 _).out.mono ?_; rintro e w' ⟨rfl, rfl⟩))
  all_goals
    go_ret
    exact ⟨ret_bool (by first | rfl | simp_all), rfl⟩
set_option maxHeartbeats 4000000 in
set_option maxRecDepth 100000 in
theorem RNameStart_any (r : Int) (w : World) : Calls Tryz.prog 66 #[.int .i32 r] w fun e w' => e = .returned (.bool (isNameStart r)) ∧ w = w' := by
  rw [start_spec]
  have HL := fun w => Lib.hid (RLetter_any r w)
  have HI0 := fun w => Lib.hid (RIs_any r 192 767 w)
  have HI1 := fun w => Lib.hid (RIs_any r 880 8191 w)
  have HI2 := fun w => Lib.hid (RIs_any r 8204 8205 w)
  have HI3 := fun w => Lib.hid (RIs_any r 8304 8591 w)
  have HI4 := fun w => Lib.hid (RIs_any r 11264 12271 w)
  have HI5 := fun w => Lib.hid (RIs_any r 12289 55295 w)
  have HI6 := fun w => Lib.hid (RIs_any r 63744 64975 w)
  have HI7 := fun w => Lib.hid (RIs_any r 65008 65533 w)
  have HI8 := fun w => Lib.hid (RIs_any r 65536 983039 w)
  generalize letterF r = bl at HL ⊢
  generalize isF r 192 767 = b0 at HI0 ⊢
  generalize isF r 880 8191 = b1 at HI1 ⊢
  generalize isF r 8204 8205 = b2 at HI2 ⊢
  generalize isF r 8304 8591 = b3 at HI3 ⊢
  generalize isF r 11264 12271 = b4 at HI4 ⊢
  generalize isF r 12289 55295 = b5 at HI5 ⊢
  generalize isF r 63744 64975 = b6 at HI6 ⊢
  generalize isF r 65008 65533 = b7 at HI7 ⊢
  generalize isF r 65536 983039 = b8 at HI8 ⊢
  go_enter Tryz.func66, Tryz.ntmps66
  go_wp2_with (first
    | (go_at_call 84; refine (HL _).out.mono ?_; rintro e w' ⟨rfl, rfl⟩)
    | (go_at_call_of 83 (Value.int .i32 192); refine (HI0 _).out.mono ?_; rintro e w' ⟨rfl, rfl⟩)
    | (go_at_call_of 83 (Value.int .i32 880); refine (HI1 _).out.mono ?_; rintro e w' ⟨rfl, rfl⟩)
    | (go_at_call_of 83 (Value.int .i32 8204); refine (HI2 _).out.mono ?_; rintro e w' ⟨rfl, rfl⟩)
    | (go_at_call_of 83 (Value.int .i32 8304); refine (HI3 _).out.mono ?_; rintro e w' ⟨rfl, rfl⟩)
    | (go_at_call_of 83 (Value.int .i32 11264); refine (HI4 _).out.mono ?_; rintro e w' ⟨rfl, rfl⟩)
    | (go_at_call_of 83 (Value.int .i32 12289); refine (HI5 _).out.mono ?_; rintro e w' ⟨rfl, rfl⟩)
    | (go_at_call_of 83 (Value.int .i32 63744); refine (HI6 _).out.mono ?_; rintro e w' ⟨rfl, rfl⟩)
    | (go_at_call_of 83 (Value.int .i32 65008); refine (HI7 _).out.mono ?_; rintro e w' ⟨rfl, rfl⟩)
    | (go_at_call_of 83 (Value.int .i32 65536); refine (HI8 _).out.mono ?_; rintro e w' ⟨rfl, rfl⟩))
  all_goals
    go_ret
    exact ⟨ret_bool (by first | rfl | simp_all), rfl⟩
set_option maxHeartbeats 4000000 in
set_option maxRecDepth 100000 in
theorem RNameChar_any (r : Int) (w : World) : Calls Tryz.prog 67 #[.int .i32 r] w fun e w' => e = .returned (.bool (isNameChar r)) ∧ w = w' := by
  rw [more_spec]
  have HL := fun w => Lib.hid (RNameStart_any r w)
  have HI1 := fun w => Lib.hid (RIs_any r 48 57 w)
  have HI2 := fun w => Lib.hid (RIs_any r 768 879 w)
  generalize isNameStart r = bl at HL ⊢
  generalize isF r 48 57 = b1 at HI1 ⊢
  generalize isF r 768 879 = b2 at HI2 ⊢
  go_enter Tryz.func67, Tryz.ntmps67
  go_wp2_with (first
    | (go_at_call 66; refine (HL _).out.mono ?_; rintro e w' ⟨rfl, rfl⟩)
    | (go_at_call_of 83 (Value.int .i32 48); refine (HI1 _).out.mono ?_; rintro e w' ⟨rfl, rfl⟩)
    | (go_at_call_of 83 (Value.int .i32 768); refine (HI2 _).out.mono ?_; rintro e w' ⟨rfl, rfl⟩))
  all_goals
    go_ret
    exact ⟨ret_bool (by first | rfl | simp_all), rfl⟩
end Go.Proofs.YtlnojpllgclgfaaGreat
namespace Go.Proofs.YtlnojpllgclgfaaGreat
open Go.RowKit Go.Lib
theorem Rd.rune {w : World} {S : Nat → Prop} {n c : Nat} {A : Option Addr} {l : List Int} (h : Rd w S 1 A n c (rc l)) {k : Nat} (hk : k < l.length) :
    ∃ b o, A = some ⟨b, o, none⟩ ∧ w.cell? ⟨b, o + k, none⟩ = some (.int .i32 l[k]) := by
  have hl := h.len
  obtain ⟨b, o, u, e, _, hu, hc⟩ := h.one (k := k) (by simp at hl; omega)
  obtain ⟨_, rfl⟩ := rc_get hu
  exact ⟨b, o, e, hc⟩
theorem Rd.rlen {w : World} {S : Nat → Prop} {n c : Nat} {A : Option Addr} {l : List Int} (h : Rd w S 1 A n c (rc l)) : n = l.length := by have := h.len; simpa using this.symm
theorem NameChar_ok (w : World) : PredOk Tryz.prog 61 #[] isNameChar w := fun W r _ => NameChar_any r W
theorem eg_NameChar : ∀ args w, (callFunc 61 args).run Tryz.prog w = .ok (.enter 61 args) w := enters_of Tryz.func61 (by kernel_rfl) rfl
def leadF (l : List Int) (k : Nat) : Nat := match l[k]? with
  | none => 0
  | some r => if isNameStart r then ((l.drop k).takeWhile isNameChar).length else 0
theorem start_char (r : Int) (h : isNameStart r = true) : isNameChar r = true := by simp [isNameChar, h]
set_option maxHeartbeats 1000000 in
set_option maxRecDepth 100000 in
theorem NLead_any (S : Nat → Prop) (A : Option Addr) (n c : Nat) (l : List Int) (k : Nat) (w : World) (hr : Rd w S 1 A n c (rc l)) (hk : k ≤ 1000000000) :
    Calls Tryz.prog 32 #[.slice A n c, .int .i64 k] w fun e w' => e = .returned (.int .i64 (leadF l k)) ∧ Below w.heap.size w w' := by
  obtain rfl := hr.rlen
  have hle := hr.le
  have hmx : c ≤ 9223372036854775807 := hr.max
  have HR := Lib.hid hr
  clear hr
  by_cases hlt : k < l.length
  · obtain ⟨b, o, rfl, hc0⟩ := HR.out.rune hlt
    have hkl : ¬ (k : Int) ≥ (l.length : Int) := by omega
    have HS := fun w => Lib.hid (NameStart_any l[k] w)
    have HL : Hid (leadF l k = if isNameStart l[k] then ((l.drop k).takeWhile isNameChar).length else 0) := by rw [Hid, leadF, List.getElem?_eq_getElem hlt]
    have HF : Hid (runF isNameChar l k = ((l.drop k).takeWhile isNameChar).length) := by rw [Hid, runF, if_neg (by omega), Int.toNat_natCast]
    generalize l[k] = r at hc0 HS HL
    cases hs : isNameStart r with
    | true =>
      rw [hs] at HS HL
      go_enter Tryz.func32, Tryz.ntmps32
      go_wp2_with (first
        | (go_at_call 60; refine (HS _).out.mono ?_; rintro e w' ⟨rfl, hb⟩)
        | (go_at_call 36; refine (Run_any S _ l.length c l k _ #[] isNameChar w' eg_NameChar (HR.out.below hb) (NameChar_ok w')).mono ?_; rintro e w2 ⟨rfl, hb2⟩))
      go_ret
      exact ⟨ret_int (by rw [HL.out, HF.out]; rfl), hb.trans (hb2.mono hb.size)⟩
    | false =>
      rw [hs] at HS HL
      go_enter Tryz.func32, Tryz.ntmps32
      go_wp2_with (go_at_call 60; refine (HS _).out.mono ?_; rintro e w' ⟨rfl, hb⟩)
      go_ret
      exact ⟨ret_int (by rw [HL.out]; rfl), hb⟩
  · have hkl : (k : Int) ≥ (l.length : Int) := by omega
    have HL : Hid (leadF l k = 0) := by rw [Hid, leadF, List.getElem?_eq_none (by omega)]
    go_enter Tryz.func32, Tryz.ntmps32
    go_wp2
    go_ret
    exact ⟨ret_int (by rw [HL.out]; rfl), Below.refl _ _⟩
theorem takeWhile_upto (p : Int → Bool) (l : List Int) (k j : Nat) (h : ∀ i, i < j → (h : k + i < l.length) → p l[k + i] = true) (hj : k + j ≤ l.length)
    (hs : ∀ h : k + j < l.length, p l[k + j] = false) : ((l.drop k).takeWhile p).length = j := by
  induction j generalizing k with
  | zero =>
    by_cases hk : k < l.length
    · rw [List.drop_eq_getElem_cons hk, List.takeWhile_cons]
      have := hs (by omega)
      simp only [Nat.add_zero] at this
      rw [this]; rfl
    · rw [List.drop_eq_nil_of_le (by omega)]; rfl
  | succ j ih =>
    have hk : k < l.length := by omega
    rw [List.drop_eq_getElem_cons hk, List.takeWhile_cons]
    have h0 := h 0 (by omega) (by omega)
    simp only [Nat.add_zero] at h0
    rw [h0]
    have := ih (k + 1) (fun i hi hl => by
      have := h (i + 1) (by omega) (by omega)
      simpa [Nat.add_assoc, Nat.add_comm 1] using this) (by omega) (fun hl => by
      have := hs (by omega)
      simpa [Nat.add_assoc, Nat.add_comm 1] using this)
    simp [this]
set_option maxHeartbeats 1000000 in
set_option maxRecDepth 100000 in
theorem RLead_any (S : Nat → Prop) (A : Option Addr) (n c : Nat) (l : List Int) (k : Nat) (w : World) (hr : Rd w S 1 A n c (rc l)) (hk : k ≤ 1000000000) (hll : l.length ≤ 1000000000) :
    Calls Tryz.prog 43 #[.slice A n c, .int .i64 k] w fun e w' => e = .returned (.int .i64 (leadF l k)) ∧ w = w' := by
  obtain rfl := hr.rlen
  have hle := hr.le
  have hmx : c ≤ 9223372036854775807 := hr.max
  have HR := Lib.hid hr
  clear hr
  by_cases hlt : k < l.length
  · obtain ⟨b, o, rfl, hc0⟩ := HR.out.rune hlt
    have hkl : ¬ (k : Int) ≥ (l.length : Int) := by omega
    have HL : Hid (leadF l k = if isNameStart l[k] then ((l.drop k).takeWhile isNameChar).length else 0) := by rw [Hid, leadF, List.getElem?_eq_getElem hlt]
    have HS := fun w => Lib.hid (RNameStart_any l[k] w)
    cases hs : isNameStart l[k] with
    | true =>
      have HC0 := Lib.hid (start_char _ hs)
      rw [hs] at HS HL
      generalize hrr : l[k] = r at hc0 HS HC0
      have HRR := Lib.hid hrr
      clear hrr hs
      go_enter Tryz.func43, Tryz.ntmps43
      go_wp2_with (go_at_call 66; refine (HS _).out.mono ?_; rintro e w' ⟨rfl, rfl⟩)
      clear hc0
      go_loopw [5] (fun v wr => wr = w ∧ ∃ j : Nat, 1 ≤ j ∧ k + j ≤ l.length ∧ v = .int .i64 j ∧ Hid (∀ i, i < j → (h : k + i < l.length) → isNameChar l[k + i] = true)) (fun v _ => l.length - (intOf v).toNat)
      case atStart =>
        refine ⟨rfl, 1, by omega, by omega, rfl, fun i hi h => ?_⟩
        have e : i = 0 := by omega
        subst e
        simp only [Nat.add_zero]
        rw [HRR.out]; exact HC0.out
      case round =>
        obtain ⟨rfl, j, hj1, hj2, rfl, HJ⟩ := hrel
        by_cases hlj : k + j < l.length
        · obtain ⟨b2, o2, hA, hc1⟩ := HR.out.rune hlj
          injection hA with hA
          injection hA with e1 e2
          subst e1 e2
          have hlj' : (k : Int) + (j : Int) < (l.length : Int) := by omega
          have HM := fun w => Lib.hid (RNameChar_any l[k + j] w)
          cases hq : isNameChar l[k + j] with
          | true =>
            have HJ2 : Hid (∀ i, i < j + 1 → (h : k + i < l.length) → isNameChar l[k + i] = true) := fun i hi h => by
              by_cases e : i = j
              · subst e; exact hq
              · exact HJ.out i (by omega) h
            rw [hq] at HM
            clear hq
            generalize l[k + j] = r2 at hc1 HM
            go_wp2_with (go_at_call 67; refine (HM _).out.mono ?_; rintro e w' ⟨rfl, rfl⟩)
            go_roundw
            case rel => exact ⟨trivial, j + 1, by omega, by omega, by go_num, HJ2.out⟩
            case measure => simp [intOf]; omega
          | false =>
            have HE : Hid (((l.drop k).takeWhile isNameChar).length = j) := takeWhile_upto _ l k j HJ.out (by omega) (fun h => hq)
            rw [hq] at HM
            clear hq
            generalize l[k + j] = r2 at hc1 HM
            go_wp2_with (go_at_call 67; refine (HM _).out.mono ?_; rintro e w' ⟨rfl, rfl⟩)
            go_ret
            exact ⟨ret_int (by rw [HL.out, HE.out]; rfl), rfl⟩
        · have hlj' : ¬ (k : Int) + (j : Int) < (l.length : Int) := by omega
          have HE : Hid (((l.drop k).takeWhile isNameChar).length = j) := takeWhile_upto _ l k j HJ.out (by omega) (fun h => absurd h hlj)
          go_wp2
          go_ret
          exact ⟨ret_int (by rw [HL.out, HE.out]; rfl), rfl⟩
    | false =>
      rw [hs] at HS HL
      generalize l[k] = r at hc0 HS
      clear hs
      go_enter Tryz.func43, Tryz.ntmps43
      go_wp2_with (go_at_call 66; refine (HS _).out.mono ?_; rintro e w' ⟨rfl, rfl⟩)
      go_ret
      exact ⟨ret_int (by rw [HL.out]; rfl), rfl⟩
  · have hkl : (k : Int) ≥ (l.length : Int) := by omega
    have HL : Hid (leadF l k = 0) := by rw [Hid, leadF, List.getElem?_eq_none (by omega)]
    go_enter Tryz.func43, Tryz.ntmps43
    go_wp2
    go_ret
    exact ⟨ret_int (by rw [HL.out]; rfl), rfl⟩
def nameF (l : List UInt8) : Bool := decide (0 < (runesF l).length) && (leadF (runesF l) 0 == (runesF l).length)
theorem runesF_empty (l : List UInt8) : (runesF l).length = 0 ↔ l = [] := by
  cases l with
  | nil => simp [runesF, itemsF, itemsGo]
  | cons b t => simp [runesF, itemsF, itemsGo]
set_option maxHeartbeats 1000000 in
set_option maxRecDepth 100000 in
theorem NName_any (s : ByteArray) (w : World) (hlen : s.size ≤ 300000000) :
    Calls Tryz.prog 63 #[.string s] w fun e w' => e = .returned (.bool (nameF s.data.toList)) ∧ Below w.heap.size w w' := by
  have HRU := Lib.hid (NRunes_any s w hlen)
  have hll : (runesF s.data.toList).length ≤ 300000000 := Nat.le_trans (runesF_len _) (by simpa using hlen)
  have HN : Hid (nameF s.data.toList = (decide (0 < (runesF s.data.toList).length) && (leadF (runesF s.data.toList) 0 == (runesF s.data.toList).length))) := rfl
  generalize nameF s.data.toList = q at HN ⊢
  generalize runesF s.data.toList = l at HRU HN hll
  go_enter Tryz.func63, Tryz.ntmps63
  go_wp2_with fail
  refine HRU.out.mono ?_
  rintro e w1 ⟨v, rfl, ⟨n', hown⟩, hb⟩
  obtain ⟨A, c, rfl, hro⟩ := own_form hown
  obtain rfl := hro.rlen
  have hle := hro.le
  have hmx : c ≤ 9223372036854775807 := hro.max
  have HO := Lib.hid hro
  have HB := Lib.hid hb
  clear hro hown hb
  have HL := Lib.hid (NLead_any _ A l.length c l 0 w1 HO.out (by omega))
  by_cases h0 : 0 < l.length
  · have h0' : (0 : Int) < (l.length : Int) := by omega
    generalize leadF l 0 = m at HL HN
    go_wp2_with (go_at_call 32; refine HL.out.mono ?_; rintro e w2 ⟨rfl, hb2⟩)
    go_ret
    refine ⟨ret_bool ?_, HB.out.trans (hb2.mono HB.out.size)⟩
    rw [HN.out, decide_eq_true h0, Bool.true_and, Bool.eq_iff_iff]
    simp only [beq_iff_eq]
    omega
  · have h0' : ¬ (0 : Int) < (l.length : Int) := by omega
    go_wp2
    go_ret
    refine ⟨ret_bool ?_, HB.out⟩
    rw [HN.out, decide_eq_false h0]; rfl
set_option maxHeartbeats 1000000 in
set_option maxRecDepth 100000 in
theorem RName_any (s : ByteArray) (w : World) (hlen : s.size ≤ 300000000) :
    Calls Tryz.prog 69 #[.string s] w fun e w' => e = .returned (.bool (nameF s.data.toList)) ∧ Below w.heap.size w w' := by
  have HRU := fun w => Lib.hid (RRunes_any s w hlen)
  have hll : (runesF s.data.toList).length ≤ 300000000 := Nat.le_trans (runesF_len _) (by simpa using hlen)
  have HN : Hid (nameF s.data.toList = (decide (0 < (runesF s.data.toList).length) && (leadF (runesF s.data.toList) 0 == (runesF s.data.toList).length))) := rfl
  have HZ := Lib.hid (runesF_empty s.data.toList)
  have hss : s.toList = s.data.toList := ByteArray.toList_eq s
  generalize nameF s.data.toList = q at HN ⊢
  generalize runesF s.data.toList = l at HRU HN hll HZ
  cases he : s.data.toList with
  | nil =>
    rw [he] at HZ hss
    have h1 : (s.toList == []) = true := by rw [hss]; rfl
    have h2 : s.toList.isEmpty = true := by rw [hss]; rfl
    go_enter Tryz.func69, Tryz.ntmps69
    go_wp2
    go_ret
    refine ⟨ret_bool ?_, Below.refl _ _⟩
    have : l.length = 0 := by simpa [Hid] using HZ
    rw [HN.out, decide_eq_false (by omega)]; rfl
  | cons b0 t0 =>
    rw [he] at HZ hss
    have h1 : (s.toList == []) = false := by rw [hss]; rfl
    have h2 : s.toList.isEmpty = false := by rw [hss]; rfl
    have h0 : 0 < l.length := by
      have := HZ.out
      simp at this
      exact List.length_pos_iff.2 this
    clear he hss HZ
    go_enter Tryz.func69, Tryz.ntmps69
    go_wp2_with fail
    refine (HRU _).out.mono ?_
    rintro e w1 ⟨v, rfl, ⟨n', hown⟩, hb⟩
    obtain ⟨A, c, rfl, hro⟩ := own_form hown
    obtain rfl := hro.rlen
    have hle := hro.le
    have hmx : c ≤ 9223372036854775807 := hro.max
    have HO := Lib.hid hro
    have HB := Lib.hid hb
    clear hro hown hb
    have HL := Lib.hid (RLead_any _ A l.length c l 0 w1 HO.out (by omega) (by omega))
    generalize leadF l 0 = m at HL HN
    go_wp2_with fail
    refine HL.out.mono ?_
    rintro e w2 ⟨rfl, rfl⟩
    go_wp2_with fail
    refine (HRU _).out.mono ?_
    rintro e w3 ⟨v3, rfl, ⟨n3, hown3⟩, hb3⟩
    obtain ⟨A3, c3, rfl, hro3⟩ := own_form hown3
    obtain rfl := hro3.rlen
    go_wp2
    go_ret
    refine ⟨ret_bool ?_, HB.out.trans (hb3.mono HB.out.size)⟩
    rw [HN.out, decide_eq_true h0, Bool.true_and, Bool.eq_iff_iff]
    simp only [beq_iff_eq]
    omega
end Go.Proofs.YtlnojpllgclgfaaGreat
namespace Go.Proofs.YtlnojpllgclgfaaGreat
open Go.RowKit Go.Lib
def bi (l : List UInt8) : List Int := l.map fun b => (b.toNat : Int)
theorem getD_at {l : List Int} {k : Nat} (h : k < l.length) : l.getD k 0 = l[k] := by simp [List.getD, h]
end Go.Proofs.YtlnojpllgclgfaaGreat
namespace Go.Proofs.YtlnojpllgclgfaaGreat
open Go.RowKit Go.Lib
abbrev IterIn (wr : World) (ib : Nat) (s : ByteArray) (pos : Nat) : Prop := wr.heap[ib]? = some (.stringIter s pos)
theorem IterIn.lt {wr : World} {ib : Nat} {s : ByteArray} {pos : Nat} (h : IterIn wr ib s pos) : ib < wr.heap.size := (Array.getElem?_eq_some_iff.1 h).1
theorem IterIn.set {wr : World} {ib : Nat} {s : ByteArray} {pos pos' : Nat} (h : IterIn wr ib s pos) : IterIn (World.iterSet wr ib s pos') ib s pos' := by
  have hlt := IterIn.lt h
  show (wr.heap.setIfInBounds ib _)[ib]? = _
  rw [Array.getElem?_setIfInBounds_self_of_lt hlt]
theorem IterIn.grown {wr w2 : World} {ib : Nat} {s : ByteArray} {pos : Nat} {row : Option Nat} (h : IterIn wr ib s pos) (hg : wr.grownBy w2 row) (hr : row ≠ some ib) : IterIn w2 ib s pos :=
  (hg.block ib (IterIn.lt h) (fun e => hr e.symm)).trans h
theorem IterIn.alloc {wr : World} {ib : Nat} {s : ByteArray} {pos : Nat} (h : IterIn wr ib s pos) (o : Obj) : IterIn (wr.alloc o) ib s pos := (Below.heap_alloc wr o _ (IterIn.lt h)).trans h
end Go.Proofs.YtlnojpllgclgfaaGreat
namespace Go.Proofs.YtlnojpllgclgfaaGreat
open Go.RowKit Go.Lib
end Go.Proofs.YtlnojpllgclgfaaGreat
namespace Go.Proofs.YtlnojpllgclgfaaGreat
open Go.RowKit Go.Lib
end Go.Proofs.YtlnojpllgclgfaaGreat
namespace Go.Proofs.YtlnojpllgclgfaaGreat
open Go.RowKit Go.Lib
end Go.Proofs.YtlnojpllgclgfaaGreat
namespace Go.Proofs.YtlnojpllgclgfaaGreat
open Go.RowKit Go.Lib
theorem RunesV.lit (w : World) (B : Nat) (hB : w.heap.size = B) (t : TypeId) (l : List Int) (n : Nat) (hn : l.length = n) (hm : n ≤ maxLen) (cs : Array Value) (hcs : cs.toList = rc l) : RunesV (w.alloc (.cells cs t)) (.slice (some ⟨B, 0, none⟩) n n) l := by
  subst hn
  refine .of_rd (S := fun b => B ≤ b) ?_
  have := Rd.litN w B hB t cs 1 l.length (by have := congrArg List.length hcs; simpa using this) hm
  rwa [hcs] at this
theorem RunesV.nil_ (w : World) : RunesV w (.slice none 0 0) [] := .of_rd (S := fun _ => True) Rd.none_
theorem RunesV.len {w : World} {v : Value} {l : List Int} (h : RunesV w v l) : ∃ A c, v = .slice A l.length c ∧ Rd w (fun _ => True) 1 A l.length c (rc l) := by
  obtain ⟨A, n, c, rfl, hr⟩ := h
  obtain rfl := hr.rlen
  exact ⟨A, c, rfl, hr⟩
theorem RowsV.lit (w : World) (B : Nat) (hB : w.heap.size = B) (t : TypeId) (vs : List Value) (ls : List (List Int)) (n : Nat) (hn : vs.length = n) (hl : vs.length = ls.length) (hm : n ≤ maxLen)
    (h : ∀ (i : Nat) (v : Value) (l : List Int), vs[i]? = some v → ls[i]? = some l → RunesV w v l) (cs : Array Value) (hcs : cs.toList = vs) : RowsV (w.alloc (.cells cs t)) (some ⟨B, 0, none⟩) n n ls vs := by
  subst hcs
  refine ⟨?_, hl, fun i v l h1 h2 => (h i v l h1 h2).alloc _⟩
  subst hn
  exact (Rd.litN w B hB t cs 1 cs.toList.length (by simp) hm).more fun _ _ => trivial
theorem Char_ok (w : World) : PredOk Tryz.prog 31 #[] isChar w := fun W r _ => Char_any r W
theorem eg_Char : ∀ args w, (callFunc 31 args).run Tryz.prog w = .ok (.enter 31 args) w := enters_of Tryz.func31 (by kernel_rfl) rfl
end Go.Proofs.YtlnojpllgclgfaaGreat
namespace Go.Proofs.YtlnojpllgclgfaaGreat
open Go.RowKit Go.Lib
theorem bt {a b c : World} (h : Below a.heap.size a b) (k : Below b.heap.size b c) : Below a.heap.size a c := h.trans (k.mono h.size)
end Go.Proofs.YtlnojpllgclgfaaGreat
namespace Go.Proofs.YtlnojpllgclgfaaGreat
open Go.RowKit Go.Lib
theorem Rd.apart {w w' : World} {B base n c m : Nat} {A : Option Addr} {xs ys : List Value} {e : TypeId} {size : Nat} {v : Value} (h : Rd w (fun b => b < B) 1 A n c xs) (hown : w.ownsRow base e size v m ys) (hB : B ≤ base) (hg : w.grownBy w' v.ownBlock) :
    Rd w' (fun b => b < B) 1 A n c xs :=
  h.grown hg fun g hg hb => by
    have := (hown.lt g hg).1
    have hb : g < B := hb
    omega
end Go.Proofs.YtlnojpllgclgfaaGreat
namespace Go.Proofs.YtlnojpllgclgfaaGreat
open Go.RowKit
end Go.Proofs.YtlnojpllgclgfaaGreat
namespace Go.Proofs.YtlnojpllgclgfaaGreat
open Go.RowKit
theorem Space_ok (w : World) : PredOk Tryz.prog 37 #[] isSpace w := fun W r _ => (Space_any r W).mono fun _ _ ⟨h1, h2⟩ => ⟨h1, h2 ▸ Below.refl _ _⟩
theorem eg_Space : ∀ args w, (callFunc 37 args).run Tryz.prog w = .ok (.enter 37 args) w := enters_of Tryz.func37 (by kernel_rfl) rfl
end Go.Proofs.YtlnojpllgclgfaaGreat
namespace Go.Proofs.YtlnojpllgclgfaaGreat
open Go.RowKit Go.Lib
abbrev PairL := List (ByteArray × List Int)
def pairCells : PairL → List Value → List Value
  | p :: ps, v :: vs => .string p.1 :: v :: pairCells ps vs
  | _, _ => []
theorem pairCells_take : ∀ (ps : PairL) (vs : List Value) (k : Nat), (pairCells ps vs).take (k * 2) = pairCells (ps.take k) (vs.take k)
  | _, _, 0 => by simp [pairCells]
  | [], _, k + 1 => by simp [pairCells]
  | _ :: _, [], k + 1 => by simp [pairCells]
  | p :: ps, v :: vs, k + 1 => by
    have ih := pairCells_take ps vs k
    rw [show (k + 1) * 2 = k * 2 + 1 + 1 by omega]
    simp [pairCells, ih]
structure PairsV (w : World) (S : Nat → Prop) (A : Option Addr) (n c : Nat) (ps : PairL) (vs : List Value) : Prop where
  rd : Rd w S 2 A n c (pairCells ps vs)
  len : vs.length = ps.length
  each : ∀ (k : Nat) (h : k < ps.length) (h2 : k < vs.length), RunesV w vs[k] ps[k].2
theorem PairsV.below {w w' : World} {S : Nat → Prop} {A : Option Addr} {n c : Nat} {ps : PairL} {vs : List Value} (h : PairsV w S A n c ps vs) (hb : Below w.heap.size w w') : PairsV w' S A n c ps vs :=
  ⟨h.rd.below hb, h.len, fun k h1 h2 => (h.each k h1 h2).below hb⟩
theorem PairsV.take {w : World} {S : Nat → Prop} {A : Option Addr} {n c : Nat} {ps : PairL} {vs : List Value} (h : PairsV w S A n c ps vs) {k : Nat} (hk : k ≤ n) : PairsV w S A k c (ps.take k) (vs.take k) := by
  refine ⟨by rw [← pairCells_take]; exact h.rd.take hk, by simp [h.len], fun j h1 h2 => ?_⟩
  rw [List.getElem_take, List.getElem_take]
  exact h.each j _ _
end Go.Proofs.YtlnojpllgclgfaaGreat
namespace Go.Proofs.YtlnojpllgclgfaaGreat
open Go.RowKit Go.Lib
end Go.Proofs.YtlnojpllgclgfaaGreat
namespace Go.Proofs.YtlnojpllgclgfaaGreat
open Go.RowKit Go.Lib
def startsF (l : List Int) (k : Nat) (bs : List UInt8) : Bool := bs.all (fun b => decide (b.toNat < 128)) && ((l.drop k).take bs.length == bi bs)
theorem starts_upto (l : List Int) (k : Nat) (bs : List UInt8) (hl : k + bs.length ≤ l.length)
    (h : ∀ i (h : i < bs.length), bs[i].toNat < 128 ∧ l[k + i]'(by omega) = bs[i].toNat) : startsF l k bs = true := by
  rw [startsF, Bool.and_eq_true]
  refine ⟨List.all_eq_true.2 fun b hb => ?_, ?_⟩
  · obtain ⟨i, hi, rfl⟩ := List.getElem_of_mem hb
    exact decide_eq_true (h i hi).1
  · rw [beq_iff_eq]
    apply List.ext_getElem
    · simp [bi]; omega
    · intro i h1 h2
      rw [List.getElem_take, List.getElem_drop]
      have hi : i < bs.length := by simpa [bi] using h2
      rw [(h i hi).2]
      simp [bi]
theorem starts_miss (l : List Int) (k : Nat) (bs : List UInt8) (i : Nat) (hi : i < bs.length) (hl : k + i < l.length) (h : ¬ (bs[i].toNat < 128 ∧ l[k + i] = bs[i].toNat)) : startsF l k bs = false := by
  cases hs : startsF l k bs with
  | false => rfl
  | true =>
    exfalso
    rw [startsF, Bool.and_eq_true, beq_iff_eq] at hs
    obtain ⟨h1, h2⟩ := hs
    refine h ⟨of_decide_eq_true (List.all_eq_true.1 h1 _ (List.getElem_mem hi)), ?_⟩
    have h3 := congrArg (fun x => x[i]?) h2
    simp only [List.getElem?_take, List.getElem?_drop, hi, if_true, bi, List.getElem?_map, List.getElem?_eq_getElem hi, List.getElem?_eq_getElem hl, Option.map_some, Option.some.injEq] at h3
    exact h3
theorem starts_short (l : List Int) (k : Nat) (bs : List UInt8) (h : l.length < k + bs.length) (hk : k ≤ l.length) : startsF l k bs = false := by
  cases hs : startsF l k bs with
  | false => rfl
  | true =>
    exfalso
    rw [startsF, Bool.and_eq_true, beq_iff_eq] at hs
    have := congrArg List.length hs.2
    simp [bi] at this
    omega
set_option maxHeartbeats 1000000 in
set_option maxRecDepth 100000 in
theorem Starts_any (S : Nat → Prop) (A : Option Addr) (n c : Nat) (l : List Int) (k : Nat) (s : ByteArray) (w : World) (hr : Rd w S 1 A n c (rc l)) (hk : k ≤ l.length) (hk9 : l.length ≤ 1000000000) (hs9 : s.size ≤ 1000000000) :
    Calls Tryz.prog 29 #[.slice A n c, .int .i64 k, .string s] w fun e w' => e = .returned (.bool (startsF l k s.data.toList)) ∧ Below w.heap.size w w' := by
  obtain rfl := hr.rlen
  have hle := hr.le
  have hmx : c ≤ 9223372036854775807 := hr.max
  have HR := Lib.hid hr
  clear hr
  have hsz : s.data.toList.length = s.size := by simp
  have hkl : ¬ (k : Int) > (l.length : Int) := by omega
  by_cases hshort : l.length < k + s.size
  · have HE := Lib.hid (starts_short l k s.data.toList (by omega) hk)
    have hsh : (l.length : Int) - (k : Int) < (s.size : Int) := by omega
    go_enter Tryz.func29, Tryz.ntmps29
    go_wp2
    go_ret
    exact ⟨ret_bool HE.out.symm, Below.refl _ _⟩
  · have hsh : ¬ (l.length : Int) - (k : Int) < (s.size : Int) := by omega
    go_enter Tryz.func29, Tryz.ntmps29
    go_wp2
    go_loopw [27] (fun i wr => ∃ j : Nat, j ≤ s.size ∧ i = .int .i64 j ∧ Hid (Below w.heap.size w wr) ∧ Hid (∀ i, i < j → (h1 : i < s.data.toList.length) → (h2 : k + i < l.length) → s.data.toList[i].toNat < 128 ∧ l[k + i] = s.data.toList[i].toNat)) (fun i _ => s.size - (intOf i).toNat)
    case atStart => exact ⟨0, Nat.zero_le _, rfl, Below.refl _ _, fun i h => absurd h (by omega)⟩
    case round =>
      obtain ⟨j, hj, rfl, HB, HJ⟩ := hrel
      by_cases hlt : j < s.size
      · have hlt2 : j < s.data.toList.length := by omega
        have hlt3 : j < s.data.size := hlt
        have hkj : k + j < l.length := by omega
        have hkj' : (k : Int) + (j : Int) < (l.length : Int) := by omega
        obtain ⟨b, o, rfl, hc0⟩ := (HR.out.below HB.out).rune hkj
        have hx : s.data.toList[j] = s.data[j] := by simp
        have hb := (s.data[j]).toNat_lt
        have hw : wrap32 ((s[j]).toNat : Int) = ((s.data[j]).toNat : Int) := by
          show wrap32 ((s.data[j]).toNat : Int) = _
          rw [← IntWalk.i32_left]; exact IntWalk.i32_in _ (by omega)
        have HM := Lib.hid (starts_miss l k s.data.toList j hlt2 hkj)
        have HX := Lib.hid hx
        rw [hx] at HM
        have HJ2 : (s.data[j]).toNat < 128 → l[k + j] = (s.data[j]).toNat → Hid (∀ i, i < j + 1 → (h1 : i < s.data.toList.length) → (h2 : k + i < l.length) → s.data.toList[i].toNat < 128 ∧ l[k + i] = s.data.toList[i].toNat) := fun e1 e2 i hi h1 h2 => by
          by_cases e : i = j
          · subst e; rw [HX.out]; exact ⟨e1, e2⟩
          · exact HJ.out i (by omega) h1 h2
        clear hx
        generalize l[k + j] = r at hc0 HM HJ2
        by_cases h128 : (s.data[j]).toNat < 128
        · have hge : ¬ ((s.data[j]).toNat : Int) ≥ 128 := by omega
          have hge3 : decide ((128 : Int) ≤ ((s[j]).toNat : Int)) = false := by show decide ((128 : Int) ≤ ((s.data[j]).toNat : Int)) = false; rw [decide_eq_false_iff_not]; omega
          by_cases hrb : r = (s.data[j]).toNat
          · have HJ3 := HJ2 h128 hrb
            have hn : (r != ((s.data[j]).toNat : Int)) = false := by simpa using hrb
            clear HJ2 HM
            go_wp2
            go_quiet (fail)
            go_wp2
            go_roundw
            case rel => exact ⟨j + 1, by omega, by go_num, below_drewN HB.out _, HJ3.out⟩
            case measure => simp [intOf]; omega
          · have HE : Hid (startsF l k s.data.toList = false) := HM.out fun h => hrb h.2
            have hn : (r != ((s.data[j]).toNat : Int)) = true := by simpa using hrb
            clear HJ2 HM
            go_wp2
            go_quiet (fail)
            go_wp2
            go_ret
            exact ⟨ret_bool HE.out.symm, below_drewN HB.out _⟩
        · have hge : ((s.data[j]).toNat : Int) ≥ 128 := by omega
          have hge3 : decide ((128 : Int) ≤ ((s[j]).toNat : Int)) = true := by show decide ((128 : Int) ≤ ((s.data[j]).toNat : Int)) = true; rw [decide_eq_true_iff]; omega
          have HE : Hid (startsF l k s.data.toList = false) := HM.out fun h => h128 h.1
          clear HJ2 HM
          go_wp2
          go_quiet (fail)
          go_wp2
          go_ret
          exact ⟨ret_bool HE.out.symm, below_drewN HB.out _⟩
      · have HE : Hid (startsF l k s.data.toList = true) := starts_upto l k _ (by omega) fun i h => HJ.out i (by omega) h (by omega)
        go_wp2
        go_ret
        exact ⟨ret_bool HE.out.symm, HB.out⟩
end Go.Proofs.YtlnojpllgclgfaaGreat
namespace Go.Proofs.YtlnojpllgclgfaaGreat
open Go.RowKit Go.Lib
def findF (l : List Int) (k t : Nat) (bs : List UInt8) : Option Nat := (List.range' k (t + 1 - bs.length - k)).find? (fun i => startsF l i bs)
theorem findF_hit (l : List Int) (k t : Nat) (bs : List UInt8) (j : Nat) (hk : k ≤ j) (ht : j + bs.length ≤ t) (h : ∀ i, k ≤ i → i < j → startsF l i bs = false) (hj : startsF l j bs = true) : findF l k t bs = some j := by
  rw [findF, List.find?_range'_eq_some]
  exact ⟨hj, List.mem_range'_1.2 ⟨hk, by omega⟩, fun i h1 h2 => by rw [h i h1 h2]; rfl⟩
theorem findF_none (l : List Int) (k t : Nat) (bs : List UInt8) (h : ∀ i, k ≤ i → i + bs.length ≤ t → startsF l i bs = false) : findF l k t bs = none := by
  rw [findF, List.find?_eq_none]
  intro i hi
  have := List.mem_range'_1.1 hi
  rw [h i this.1 (by omega)]
  decide
set_option maxHeartbeats 1000000 in
set_option maxRecDepth 100000 in
theorem LFind_any (S : Nat → Prop) (A : Option Addr) (n c : Nat) (l : List Int) (k t : Nat) (s : ByteArray) (w : World) (hr : Rd w S 1 A n c (rc l)) (hk : k ≤ l.length) (ht : t ≤ l.length) (hk9 : l.length ≤ 1000000000) (hs9 : s.size ≤ 1000000000) :
    Calls Tryz.prog 38 #[.slice A n c, .int .i64 k, .int .i64 t, .string s] w fun e w' => e = .returned (.tuple #[.int .i64 ((findF l k t s.data.toList).getD 0), .bool (findF l k t s.data.toList).isSome]) ∧ Below w.heap.size w w' := by
  obtain rfl := hr.rlen
  have hle := hr.le
  have hmx : c ≤ 9223372036854775807 := hr.max
  have HR := Lib.hid hr
  clear hr
  have hkl : ¬ (k : Int) > (l.length : Int) := by omega
  have htl : ¬ (t : Int) > (l.length : Int) := by omega
  have hsz : s.data.toList.length = s.size := by simp
  have HS := fun W (j : Nat) (hj : j ≤ l.length) (h : Below w.heap.size w W) => Lib.hid (Starts_any S A l.length c l j s W (HR.out.below h) hj hk9 hs9)
  have HH := Lib.hid (findF_hit l k t s.data.toList)
  have HN := Lib.hid (findF_none l k t s.data.toList)
  generalize findF l k t s.data.toList = q at HH HN ⊢
  go_enter Tryz.func38, Tryz.ntmps38
  go_wp2
  go_loopw [10] (fun i wr => ∃ j : Nat, k ≤ j ∧ j ≤ l.length + 1 ∧ i = .int .i64 j ∧ Hid (Below w.heap.size w wr) ∧ Hid (∀ i, k ≤ i → i < j → startsF l i s.data.toList = false)) (fun i _ => l.length + 1 - (intOf i).toNat)
  case atStart => exact ⟨k, Nat.le_refl _, by omega, rfl, Below.refl _ _, fun i h1 h2 => absurd h2 (by omega)⟩
  case round =>
    obtain ⟨j, hj1, hj2, rfl, HB, HJ⟩ := hrel
    by_cases hlt : j + s.size ≤ t
    · have hlt2 : (j : Int) ≤ (t : Int) - (s.size : Int) := by omega
      have HC := HS _ j (by omega) HB.out
      cases hq : startsF l j s.data.toList with
      | true =>
        rw [hq] at HC
        have HE : Hid (q = some j) := HH.out j hj1 (by omega) HJ.out hq
        clear hq
        go_wp2_with (go_at_call 29; refine HC.out.mono ?_; rintro e w' ⟨rfl, hb⟩)
        go_ret2
        rw [HE.out]
        exact ⟨rfl, HB.out.trans (hb.mono HB.out.size)⟩
      | false =>
        rw [hq] at HC
        have HJ2 : Hid (∀ i, k ≤ i → i < j + 1 → startsF l i s.data.toList = false) := fun i h1 h2 => by
          by_cases e : i = j
          · subst e; exact hq
          · exact HJ.out i h1 (by omega)
        clear hq
        go_wp2_with (go_at_call 29; refine HC.out.mono ?_; rintro e w' ⟨rfl, hb⟩)
        go_roundw
        case rel => exact ⟨j + 1, by omega, by omega, by go_num, HB.out.trans (hb.mono HB.out.size), HJ2.out⟩
        case measure => simp [intOf]; omega
    · have hlt2 : ¬ (j : Int) ≤ (t : Int) - (s.size : Int) := by omega
      have HE : Hid (q = none) := HN.out fun i h1 h2 => HJ.out i h1 (by omega)
      go_wp2
      go_ret2
      rw [HE.out]
      exact ⟨rfl, HB.out⟩
def I32 (l : List Int) : Prop := ∀ x ∈ l, -2147483648 ≤ x ∧ x ≤ 2147483647
set_option maxHeartbeats 1000000 in
set_option maxRecDepth 100000 in
theorem RStarts_any (S : Nat → Prop) (A : Option Addr) (n c : Nat) (l : List Int) (k : Nat) (s : ByteArray) (w : World) (hr : Rd w S 1 A n c (rc l)) (hk : k ≤ l.length) (hk9 : l.length ≤ 1000000000) (hs9 : s.size ≤ 1000000000) (hi : I32 l) :
    Calls Tryz.prog 42 #[.slice A n c, .int .i64 k, .string s] w fun e w' => e = .returned (.bool (startsF l k s.data.toList)) ∧ Below w.heap.size w w' := by
  obtain rfl := hr.rlen
  have hle := hr.le
  have hmx : c ≤ 9223372036854775807 := hr.max
  have HR := Lib.hid hr
  have HI := Lib.hid hi
  clear hr hi
  have hsz : s.data.toList.length = s.size := by simp
  have hkl : ¬ (k : Int) > (l.length : Int) := by omega
  by_cases hshort : l.length < k + s.size
  · have HE := Lib.hid (starts_short l k s.data.toList (by omega) hk)
    have hsh : (s.size : Int) > (l.length : Int) - (k : Int) := by omega
    go_enter Tryz.func42, Tryz.ntmps42
    go_wp2
    go_ret
    exact ⟨ret_bool HE.out.symm, Below.refl _ _⟩
  · have hsh : ¬ (s.size : Int) > (l.length : Int) - (k : Int) := by omega
    go_enter Tryz.func42, Tryz.ntmps42
    go_wp2
    go_loopw [7] (fun i wr => ∃ j : Nat, j ≤ s.size ∧ i = .int .i64 j ∧ Hid (Below w.heap.size w wr) ∧ Hid (∀ i, i < j → (h1 : i < s.data.toList.length) → (h2 : k + i < l.length) → s.data.toList[i].toNat < 128 ∧ l[k + i] = s.data.toList[i].toNat)) (fun i _ => s.size - (intOf i).toNat)
    case atStart => exact ⟨0, Nat.zero_le _, rfl, Below.refl _ _, fun i h => absurd h (by omega)⟩
    case round =>
      obtain ⟨j, hj, rfl, HB, HJ⟩ := hrel
      by_cases hlt : j < s.size
      · have hlt2 : j < s.data.toList.length := by omega
        have hlt3 : j < s.data.size := hlt
        have hkj : k + j < l.length := by omega
        have hkj' : (k : Int) + (j : Int) < (l.length : Int) := by omega
        obtain ⟨b, o, rfl, hc0⟩ := (HR.out.below HB.out).rune hkj
        have hx : s.data.toList[j] = s.data[j] := by simp
        have hb := (s.data[j]).toNat_lt
        have hw : wrap64 ((s[j]).toNat : Int) = ((s.data[j]).toNat : Int) := by
          show wrap64 ((s.data[j]).toNat : Int) = _
          exact IntWalk.wrap64_in _ (by omega)
        have hri := HI.out _ (List.getElem_mem hkj)
        have HM := Lib.hid (starts_miss l k s.data.toList j hlt2 hkj)
        have HX := Lib.hid hx
        rw [hx] at HM
        have HJ2 : (s.data[j]).toNat < 128 → l[k + j] = (s.data[j]).toNat → Hid (∀ i, i < j + 1 → (h1 : i < s.data.toList.length) → (h2 : k + i < l.length) → s.data.toList[i].toNat < 128 ∧ l[k + i] = s.data.toList[i].toNat) := fun e1 e2 i hi h1 h2 => by
          by_cases e : i = j
          · subst e; rw [HX.out]; exact ⟨e1, e2⟩
          · exact HJ.out i (by omega) h1 h2
        clear hx
        generalize l[k + j] = r at hc0 HM HJ2 hri
        by_cases h128 : (s.data[j]).toNat < 128
        · have hge : ¬ ((s.data[j]).toNat : Int) > 127 := by omega
          have hge3 : decide ((127 : Int) < ((s[j]).toNat : Int)) = false := by show decide ((127 : Int) < ((s.data[j]).toNat : Int)) = false; rw [decide_eq_false_iff_not]; omega
          by_cases hrb : r = (s.data[j]).toNat
          · have HJ3 := HJ2 h128 hrb
            have hn : (r != ((s.data[j]).toNat : Int)) = false := by simpa using hrb
            clear HJ2 HM
            go_wp2
            go_quiet (fail)
            go_wp2
            go_roundw
            case rel => exact ⟨j + 1, by omega, by go_num, below_drewN HB.out _, HJ3.out⟩
            case measure => simp [intOf]; omega
          · have HE : Hid (startsF l k s.data.toList = false) := HM.out fun h => hrb h.2
            have hn : (r != ((s.data[j]).toNat : Int)) = true := by simpa using hrb
            clear HJ2 HM
            go_wp2
            go_quiet (fail)
            go_wp2
            go_ret
            exact ⟨ret_bool HE.out.symm, below_drewN HB.out _⟩
        · have hge : ((s.data[j]).toNat : Int) > 127 := by omega
          have hge3 : decide ((127 : Int) < ((s[j]).toNat : Int)) = true := by show decide ((127 : Int) < ((s.data[j]).toNat : Int)) = true; rw [decide_eq_true_iff]; omega
          have HE : Hid (startsF l k s.data.toList = false) := HM.out fun h => h128 h.1
          clear HJ2 HM
          go_wp2
          go_quiet (fail)
          go_wp2
          go_ret
          exact ⟨ret_bool HE.out.symm, below_drewN HB.out _⟩
      · have HE : Hid (startsF l k s.data.toList = true) := starts_upto l k _ (by omega) fun i h => HJ.out i (by omega) h (by omega)
        go_wp2
        go_ret
        exact ⟨ret_bool HE.out.symm, HB.out⟩
end Go.Proofs.YtlnojpllgclgfaaGreat
namespace Go.Proofs.YtlnojpllgclgfaaGreat
open Go.RowKit Go.Lib
set_option maxRecDepth 100000 in
theorem Rd.runesLH {w : World} {S : Nat → Prop} {n c : Nat} {A : Option Addr} {l : List Int} (h : Rd w S 1 A n c (rc l)) {j k : Nat} (hj : j ≤ k) (hk : k ≤ n) :
    ∃ A', Rd w S 1 A' (k - j) (c - j) (rc ((l.drop j).take (k - j))) ∧ ∀ W, (Instr.slice 22 (.slice A n c) (some (.int .i64 j)) (some (.int .i64 k)) none).run Tryz.prog W = .ok (.slice A' (k - j) (c - j)) W := by
  obtain ⟨A', hr, hs⟩ := h.cutLH Tryz.underlying22 (fun _ => by simp [go_sem]) (P := Tryz.prog) hj hk
  exact ⟨A', by simpa [rc, List.map_take, List.map_drop] using hr, hs⟩
set_option maxRecDepth 100000 in
theorem Rd.runesH {w : World} {S : Nat → Prop} {n c : Nat} {A : Option Addr} {l : List Int} (h : Rd w S 1 A n c (rc l)) {k : Nat} (hk : k ≤ n) :
    ∃ A', Rd w S 1 A' k c (rc (l.take k)) ∧ ∀ W, (Instr.slice 22 (.slice A n c) none (some (.int .i64 k)) none).run Tryz.prog W = .ok (.slice A' k c) W := by
  obtain ⟨A', hr, hs⟩ := h.cutH Tryz.underlying22 (fun _ => by simp [go_sem]) (P := Tryz.prog) hk
  exact ⟨A', by simpa [rc, List.map_take] using hr, hs⟩
set_option maxRecDepth 100000 in
theorem Rd.runesL {w : World} {S : Nat → Prop} {n c : Nat} {A : Option Addr} {l : List Int} (h : Rd w S 1 A n c (rc l)) {k : Nat} (hk : k ≤ n) :
    ∃ A', Rd w S 1 A' (n - k) (c - k) (rc (l.drop k)) ∧ ∀ W, (Instr.slice 22 (.slice A n c) (some (.int .i64 k)) none none).run Tryz.prog W = .ok (.slice A' (n - k) (c - k)) W := by
  obtain ⟨A', hr, hs⟩ := h.cutL Tryz.underlying22 (fun _ => by simp [go_sem]) (P := Tryz.prog) hk
  exact ⟨A', by simpa [rc, List.map_drop] using hr, hs⟩
def mayF (n : Nat) (a b : Int) : Bool := decide (0 ≤ a) && (decide (a ≤ b) && decide (b ≤ n))
set_option maxHeartbeats 1000000 in
set_option maxRecDepth 100000 in
theorem In_any (A : Option Addr) (n c : Nat) (a b : Int) (w : World) :
    Calls Tryz.prog 28 #[.slice A n c, .int .i64 a, .int .i64 b] w fun e w' => e = .returned (.bool (mayF n a b)) ∧ w = w' := by
  by_cases h1 : 0 ≤ a
  · have h1' : a ≥ 0 := h1
    by_cases h2 : a ≤ b
    · have h2' : b ≥ a := h2
      go_enter Tryz.func28, Tryz.ntmps28
      go_wp2
      go_ret
      exact ⟨ret_bool (by rw [mayF, decide_eq_true h1, decide_eq_true h2]; rfl), rfl⟩
    · have h2' : ¬ b ≥ a := h2
      have HE : Hid (mayF n a b = false) := by rw [Hid, mayF, decide_eq_true h1, decide_eq_false h2]; rfl
      go_enter Tryz.func28, Tryz.ntmps28
      go_wp2
      go_ret
      exact ⟨ret_bool HE.out.symm, rfl⟩
  · have h1' : ¬ a ≥ 0 := h1
    have HE : Hid (mayF n a b = false) := by rw [Hid, mayF, decide_eq_false h1]; rfl
    go_enter Tryz.func28, Tryz.ntmps28
    go_wp2
    go_ret
    exact ⟨ret_bool HE.out.symm, rfl⟩
set_option maxHeartbeats 1000000 in
set_option maxRecDepth 100000 in
theorem RMay_any (A : Option Addr) (n c : Nat) (a b : Int) (w : World) :
    Calls Tryz.prog 40 #[.slice A n c, .int .i64 a, .int .i64 b] w fun e w' => e = .returned (.bool (mayF n a b)) ∧ w = w' := by
  by_cases h1 : 0 ≤ a
  · have h1' : a ≥ 0 := h1
    by_cases h2 : a ≤ b
    · have h2' : b ≥ a := h2
      go_enter Tryz.func40, Tryz.ntmps40
      go_wp2
      go_ret
      exact ⟨ret_bool (by rw [mayF, decide_eq_true h1, decide_eq_true h2]; rfl), rfl⟩
    · have h2' : ¬ b ≥ a := h2
      have HE : Hid (mayF n a b = false) := by rw [Hid, mayF, decide_eq_true h1, decide_eq_false h2]; rfl
      go_enter Tryz.func40, Tryz.ntmps40
      go_wp2
      go_ret
      exact ⟨ret_bool HE.out.symm, rfl⟩
  · have h1' : ¬ a ≥ 0 := h1
    have HE : Hid (mayF n a b = false) := by rw [Hid, mayF, decide_eq_false h1]; rfl
    go_enter Tryz.func40, Tryz.ntmps40
    go_wp2
    go_ret
    exact ⟨ret_bool HE.out.symm, rfl⟩
set_option maxHeartbeats 1000000 in
set_option maxRecDepth 100000 in
theorem RChars16_any (S : Nat → Prop) (A : Option Addr) (n c : Nat) (l : List Int) (w : World) (hr : Rd w S 1 A n c (rc l)) (_hn9 : l.length ≤ 1000000000) :
    Calls Tryz.prog 41 #[.slice A n c] w fun e w' => e = .returned (.bool (l.all isChar)) ∧ w = w' := by
  obtain rfl := hr.rlen
  have hle := hr.le
  have hmx : c ≤ 9223372036854775807 := hr.max
  have HR := Lib.hid hr
  clear hr
  go_enter Tryz.func41, Tryz.ntmps41
  go_wp2
  go_loopw [7] (fun i wr => wr = w ∧ ∃ (k : Nat), k ≤ l.length ∧ i = .int .i64 k ∧ Hid ((l.take k).all isChar = true)) (fun i _ => l.length - (intOf i).toNat)
  case atStart => exact ⟨rfl, 0, Nat.zero_le _, rfl, rfl⟩
  case round =>
    obtain ⟨rfl, k, hk, rfl, HA⟩ := hrel
    by_cases hlt : k < l.length
    · obtain ⟨b, u, rfl, hc0⟩ := HR.out.rune hlt
      have HC := fun w => Lib.hid (RChar_any l[k] w)
      cases hq : isChar l[k] with
      | true =>
        have HA2 : Hid ((l.take (k + 1)).all isChar = true) := by rw [Hid, List.take_succ_eq_append_getElem hlt, List.all_append, HA.out]; simp [hq]
        rw [hq] at HC
        generalize l[k] = r at hc0 HC
        clear hq
        go_wp2_with (go_at_call 65; refine (HC _).out.mono ?_; rintro e w' ⟨rfl, rfl⟩)
        go_roundw
        case rel => exact ⟨trivial, k + 1, by omega, by go_num, HA2.out⟩
        case measure => simp [intOf]; omega
      | false =>
        have HE : Hid (l.all isChar = false) := by rw [Hid, List.all_eq_false]; exact ⟨l[k], List.getElem_mem hlt, by simp [hq]⟩
        rw [hq] at HC
        generalize l[k] = r at hc0 HC
        clear hq
        go_wp2_with (go_at_call 65; refine (HC _).out.mono ?_; rintro e w' ⟨rfl, rfl⟩)
        go_ret
        exact ⟨ret_bool HE.out.symm, rfl⟩
    · have HE : Hid (l.all isChar = true) := by have e : l.take k = l := List.take_of_length_le (by omega)
                                                rw [Hid, ← HA.out, e]
      go_wp2
      go_ret
      exact ⟨ret_bool HE.out.symm, rfl⟩
end Go.Proofs.YtlnojpllgclgfaaGreat
