/-
  Go's slices at []rune: Index, Contains, Grow of nil, Concat. Rows of at most 1000000000 runes in all.
-/
import Derived.Test.YtbbplpmaknaadaaOwn
import Derived.Lib.AppendZeros
namespace Go.Proofs.Ytbbplpmaknaadaa
open Go.RowKit

theorem mem_take_succ (l : List Int) (j : Nat) (hj : j < l.length) (x : Int) : x ∈ l.take (j + 1) ↔ x ∈ l.take j ∨ x = l[j] := by
  rw [List.take_succ_eq_append_getElem hj, List.mem_append, List.mem_singleton]

set_option maxHeartbeats 1000000 in
set_option maxRecDepth 100000 in
/-- below 0 just where the rune is not there -/
theorem Index_any (S : Nat → Prop) (A : Option Addr) (n c : Nat) (l : List Int) (x : Int) (w : World) (hr : Rd w S 1 A n c (rc l)) :
    Calls Try.prog 82 #[.slice A n c, .int .i32 x] w fun e w' => ∃ k : Int, e = .returned (.int .i64 k) ∧ (x ∈ l ↔ 0 ≤ k) ∧ Below w.heap.size w w' := by
  have hle := hr.le
  have hmx : c ≤ 9223372036854775807 := hr.max
  have hl : n = l.length := by have := hr.len; simpa using this.symm
  subst hl
  have HR := Lib.hid hr
  clear hr
  go_enter Try.func82, Try.ntmps82
  go_wp2
  go_loopw [8] (fun i wr => ∃ (j : Nat), j ≤ l.length ∧ i = .int .i64 j ∧ Hid (x ∉ l.take j) ∧ Hid (Below w.heap.size w wr)) (fun i _ => l.length - (intOf i).toNat)
  case atStart => exact ⟨0, Nat.zero_le _, rfl, by simp [Hid], Below.refl _ _⟩
  case round =>
    obtain ⟨j, hj, rfl, HS, HB⟩ := hrel
    by_cases hlt : j < l.length
    · obtain ⟨b, o, u, rfl, _, hu, hc⟩ := (HR.out.below HB.out).one hlt
      obtain ⟨hjm, rfl⟩ := rc_get hu
      clear hu
      have hjl : (j : Int) < (l.length : Int) := by omega
      have HM := Lib.hid (mem_take_succ l j hlt x)
      have HI := Lib.hid (List.getElem_mem hjm)
      generalize l[j] = y at hc HM HI
      by_cases hxy : x = y
      · have hb : (x == y) = true := by simpa using hxy
        have HX := Lib.hid hxy
        clear hxy
        go_wp2
        go_ret
        exact ⟨j, rfl, by rw [HX.out]; exact ⟨fun _ => by omega, fun _ => HI.out⟩, HB.out⟩
      · have hb : (x == y) = false := by simpa using hxy
        have HX := Lib.hid hxy
        clear hxy
        go_wp2
        go_roundw
        case rel =>
          refine ⟨j + 1, by omega, by go_num, ?_, HB.out⟩
          rw [Hid, HM.out]
          rintro (h | h)
          · exact HS.out h
          · exact HX.out h
        case measure => simp [intOf]; omega
    · have e : l.take j = l := List.take_of_length_le (by omega)
      rw [e] at HS
      clear e
      go_wp2
      go_ret
      exact ⟨-1, rfl, ⟨fun h => absurd h HS.out, fun h => absurd h (by omega)⟩, HB.out⟩

set_option maxHeartbeats 400000 in
theorem Contains_any (S : Nat → Prop) (A : Option Addr) (n c : Nat) (l : List Int) (x : Int) (w : World) (hr : Rd w S 1 A n c (rc l)) :
    Calls Try.prog 61 #[.slice A n c, .int .i32 x] w fun e w' => e = .returned (.bool (l.contains x)) ∧ Below w.heap.size w w' := by
  have HC := Lib.hid (Index_any S A n c l x w hr)
  clear hr
  go_enter Try.func61, Try.ntmps61
  go_wp2_with fail
  refine HC.out.mono ?_
  rintro e w1 ⟨k, rfl, hk, hb⟩
  have HK := Lib.hid hk
  clear hk
  go_wp2
  go_ret
  refine ⟨ret_bool ?_, hb⟩
  rw [Bool.eq_iff_iff, List.contains_iff_mem, HK.out, decide_eq_true_iff]

set_option maxHeartbeats 1000000 in
set_option maxRecDepth 100000 in
theorem GrowNil_any (n : Nat) (w : World) (hn : n ≤ 1000000000) :
    Calls Try.prog 100 #[.slice none 0 0, .int .i64 n] w fun e w' => ∃ v, e = .returned v ∧ w'.ownsRow w.heap.size 21 1 v 0 (rc []) ∧ Below w.heap.size w w' := by
  obtain ⟨i0, hi, hz0, hz1, hz2⟩ := info_parts Try.info21
  rcases Nat.eq_zero_or_pos n with rfl | h0
  · go_enter Try.func100, Try.ntmps100
    go_wp2
    go_ret
    exact ⟨_, rfl, World.ownsRow_nil _ _ _ _, Below.refl _ _⟩
  · have hrz : ∀ ty, (Builtin.append_ #[22, 3] ty #[.slice none 0 0, .int .i64 (n : Int)]).run Try.prog w =
        .ok (.slice (some ⟨w.heap.size, 0, none⟩) n (grownCap w n 0 21)) (w.drew.alloc (.cells (Builtin.zeroCells (Value.int .i32 0).cells n ++ Builtin.zeroCells (Value.int .i32 0).cells (grownCap w n 0 21 - n)) 21)) := fun ty =>
      Lib.run_append_nil_zeros w 22 3 ty 21 i0 _ .i64 .i64 Try.underlying22 Try.underlying3 hi hz0 n h0 (by omega) (by omega) (by rw [hz2]; omega)
    have hG := grownCap_ge w n 0 21
    have hG63 := grownCap_le_maxLen w n 0 21 (by unfold maxLen; omega)
    have hown : (w.drew.alloc (.cells (Builtin.zeroCells (Value.int .i32 0).cells n ++ Builtin.zeroCells (Value.int .i32 0).cells (grownCap w n 0 21 - n)) 21)).ownsRow w.heap.size 21 1 (.slice (some ⟨w.heap.size, 0, none⟩) 0 (grownCap w n 0 21)) 0 (rc []) :=
      ⟨by simp [rc], .inr ⟨w.heap.size, _, _, rfl, Nat.le_refl _, heap_alloc_new w.drew _, Nat.zero_le _, hG63, by
        simp only [Array.size_append, size_zeroCells]
        have : (Value.int IntKind.i32 0).cells.size = 1 := rfl
        rw [this]; omega, by simp [rc]⟩⟩
    have hG64 : grownCap w n 0 21 ≤ 9223372036854775807 := hG63
    generalize grownCap w n 0 21 = G at hrz hG hG64 hown
    generalize Builtin.zeroCells (Value.int .i32 0).cells n ++ Builtin.zeroCells (Value.int .i32 0).cells (G - n) = Z at hrz hown
    have HOWN := Lib.hid hown
    clear hown hG63 hi hz0 hz1 hz2
    have h2 : ¬ ((n : Int) < 0) := by omega
    go_enter Try.func100, Try.ntmps100
    go_wp2_with (at_builtin; refine Lib.wpList_append_run _ rfl _ _ _ _ rfl _ _ rfl rfl _ _ (hrz _) ?_)
    go_ret
    exact ⟨_, rfl, HOWN.out, (Below.refl _ w).drew.alloc (Nat.le_refl _) _⟩

/-- a value that reads as runes, wherever it lies -/
def RunesV (w : World) (v : Value) (l : List Int) : Prop := ∃ A n c, v = .slice A n c ∧ Rd w (fun _ => True) 1 A n c (rc l)
theorem RunesV.of_own {w : World} {base : Nat} {e : TypeId} {v : Value} {n : Nat} {l : List Int} (h : w.ownsRow base e 1 v n (rc l)) : RunesV w v l := by
  obtain ⟨A, c, rfl, hr⟩ := own_form h
  exact ⟨A, n, c, rfl, hr.more fun _ _ => trivial⟩
theorem RunesV.of_rd {w : World} {S : Nat → Prop} {A : Option Addr} {n c : Nat} {l : List Int} (h : Rd w S 1 A n c (rc l)) : RunesV w (.slice A n c) l := ⟨A, n, c, rfl, h.more fun _ _ => trivial⟩
theorem RunesV.below {w w' : World} {v : Value} {l : List Int} (h : RunesV w v l) (hb : Below w.heap.size w w') : RunesV w' v l := by
  obtain ⟨A, n, c, rfl, hr⟩ := h
  exact ⟨A, n, c, rfl, hr.below hb⟩
theorem RunesV.alloc {w : World} {v : Value} {l : List Int} (h : RunesV w v l) (o : Obj) : RunesV (w.alloc o) v l := by
  obtain ⟨A, n, c, rfl, hr⟩ := h
  exact ⟨A, n, c, rfl, hr.alloc o⟩

/-- rows of runes -/
structure RowsV (w : World) (A : Option Addr) (n c : Nat) (ls : List (List Int)) (vs : List Value) : Prop where
  rd : Rd w (fun _ => True) 1 A n c vs
  len : vs.length = ls.length
  each : ∀ (i : Nat) (v : Value) (l : List Int), vs[i]? = some v → ls[i]? = some l → RunesV w v l
theorem RowsV.below {w w' : World} {A : Option Addr} {n c : Nat} {ls : List (List Int)} {vs : List Value} (h : RowsV w A n c ls vs) (hb : Below w.heap.size w w') : RowsV w' A n c ls vs :=
  ⟨h.rd.below hb, h.len, fun i v l h1 h2 => (h.each i v l h1 h2).below hb⟩

def sumLen (ls : List (List Int)) : Nat := (ls.map List.length).sum
theorem sumLen_succ (ls : List (List Int)) (j : Nat) (hj : j < ls.length) : sumLen (ls.take (j + 1)) = sumLen (ls.take j) + ls[j].length := by
  rw [sumLen, List.take_succ_eq_append_getElem hj]
  simp only [sumLen, List.map_append, List.sum_append, List.map_cons, List.map_nil, List.sum_cons, List.sum_nil, Nat.add_zero]
theorem sumLen_le (ls : List (List Int)) (j : Nat) : sumLen (ls.take j) ≤ sumLen ls := by
  have : ls = ls.take j ++ ls.drop j := (List.take_append_drop j ls).symm
  conv => rhs; rw [this]
  simp only [sumLen, List.map_append, List.sum_append]
  omega
theorem flat_succ (ls : List (List Int)) (j : Nat) (hj : j < ls.length) : (ls.take (j + 1)).flatten = (ls.take j).flatten ++ ls[j] := by
  rw [List.take_succ_eq_append_getElem hj, List.flatten_append]
  simp only [List.flatten_cons, List.flatten_nil, List.append_nil]
theorem sumLen_flat (ls : List (List Int)) : ls.flatten.length = sumLen ls := by rw [List.length_flatten, sumLen]

set_option maxHeartbeats 1000000 in
set_option maxRecDepth 100000 in
theorem Concat_any (A : Option Addr) (n c : Nat) (ls : List (List Int)) (vs : List Value) (w : World) (hr : RowsV w A n c ls vs) (hsum : sumLen ls ≤ 1000000000) :
    Calls Try.prog 72 #[.slice A n c] w fun e w' => ∃ v, e = .returned v ∧ (∃ n', w'.ownsRow w.heap.size 21 1 v n' (rc ls.flatten)) ∧ Below w.heap.size w w' := by
  have hle := hr.rd.le
  have hmx : c ≤ 9223372036854775807 := hr.rd.max
  have hl : n = ls.length := by have := hr.rd.len; have := hr.len; omega
  subst hl
  have HR := Lib.hid hr
  clear hr
  go_enter Try.func72, Try.ntmps72
  go_wp2
  go_loopw [3, 11] (fun s i wr => ∃ (j : Nat), j ≤ ls.length ∧ i = .int .i64 j ∧ s = .int .i64 (sumLen (ls.take j) : Nat) ∧ Hid (w = wr)) (fun _ i _ => ls.length - (intOf i).toNat)
  case atStart => exact ⟨0, Nat.zero_le _, rfl, rfl, rfl⟩
  case round =>
    obtain ⟨j, hj, rfl, rfl, HW⟩ := hrel
    have hw := HW.out
    subst hw
    have hs1 := sumLen_le ls j
    by_cases hlt : j < ls.length
    · obtain ⟨b, o, u, rfl, _, hu, hc⟩ := HR.out.rd.one hlt
      obtain ⟨A', n', c', rfl, hrj⟩ := HR.out.each j u ls[j] hu (List.getElem?_eq_getElem hlt)
      have hn' : n' = ls[j].length := by have := hrj.len; simpa using this.symm
      have hs2 := sumLen_le ls (j + 1)
      have hs3 := sumLen_succ ls j hlt
      rw [← hn'] at hs3
      have HS := Lib.hid hs3
      have hs4 : sumLen (ls.take j) + n' ≤ 1000000000 := by omega
      have hc' : c' ≤ 9223372036854775807 := hrj.max
      clear hs3 hs2 hn' hu hrj
      go_wp2
      go_roundw
      case rel => exact ⟨j + 1, by omega, by go_num, by rw [HS.out]; go_num, by first | rfl | exact trivial⟩
      case measure => simp [intOf]; omega
    · have e : ls.take j = ls := List.take_of_length_le (by omega)
      rw [e] at hs1 ⊢
      clear e
      generalize hsz : sumLen ls = sz at hs1 hsum
      have HSZ := Lib.hid hsz
      clear hsz
      go_wp2_with fail
      refine (GrowNil_any sz w hsum).mono ?_
      rintro e w1 ⟨v1, rfl, hown1, hb1⟩
      obtain ⟨A1, c1, rfl, _⟩ := own_form hown1
      have HO1 := Lib.hid hown1
      have HB1 := Lib.hid hb1
      clear hown1 hb1
      go_wp2
      go_loopw [6, 27] (fun v i wr => ∃ (k : Nat), k ≤ ls.length ∧ i = .int .i64 k ∧ Hid (∃ n', wr.ownsRow w.heap.size 21 1 v n' (rc (ls.take k).flatten)) ∧ Hid (Below w.heap.size w wr)) (fun _ i _ => ls.length - (intOf i).toNat)
      case atStart => exact ⟨0, Nat.zero_le _, rfl, ⟨_, by simpa using HO1.out⟩, HB1.out⟩
      case round =>
        obtain ⟨k, hk, rfl, HO, HB⟩ := hrel
        obtain ⟨no, HO⟩ := HO.out
        have hno : no = (ls.take k).flatten.length := rc_own_len HO
        have hno2 : no ≤ 1000000000 := by
          have := sumLen_le ls k
          rw [hno, sumLen_flat]
          have := HSZ.out
          omega
        obtain ⟨Ao, co, rfl, hro⟩ := own_form HO
        have hco : co ≤ 9223372036854775807 := hro.max
        have HO := Lib.hid HO
        have HNO := Lib.hid hno
        clear hro hno
        by_cases hlt2 : k < ls.length
        · obtain ⟨b, o, u, rfl, _, hu, hc⟩ := (HR.out.rd.below HB.out).one hlt2
          obtain ⟨A', n', c', rfl, hrj⟩ := HR.out.each k u ls[k] hu (List.getElem?_eq_getElem hlt2)
          have hs2 := sumLen_le ls (k + 1)
          have hs3 := sumLen_succ ls k hlt2
          have hn' : n' = ls[k].length := by have := hrj.len; simpa using this.symm
          have hlen : no + n' ≤ 1000000000 := by
            have h1 := HNO.out
            have h2 := HSZ.out
            rw [sumLen_flat] at h1
            omega
          have HF := Lib.hid (flat_succ ls k hlt2)
          have HJ := Lib.hid (hrj.below HB.out)
          clear hs2 hs3 hn' hrj hu
          go_wp2_with (first
            | (at_builtin
               refine append_runes _ rfl (.tmp 31) (.tmp 32) rfl w.heap.size _ _ (ls.take k).flatten rfl HO.out _ _ n' _ ls[k] rfl HJ.out hlen HB.out.size ?_
               intro A2 c2 w2 hown2 hg2 _ _
               have HB2 := Lib.hid (below_own HB.out HB.out.size HO.out hg2)
               have HO2 := Lib.hid hown2
               clear hown2 hg2))
          go_roundw
          case rel => exact ⟨k + 1, by omega, by go_num, ⟨_, by rw [HF.out]; exact HO2.out⟩, HB2.out⟩
          case measure => simp [intOf]; omega
        · have e : ls.take k = ls := List.take_of_length_le (by omega)
          rw [e] at HO
          clear e
          go_wp2
          go_ret
          exact ⟨_, rfl, ⟨_, HO.out⟩, HB.out⟩

end Go.Proofs.Ytbbplpmaknaadaa
