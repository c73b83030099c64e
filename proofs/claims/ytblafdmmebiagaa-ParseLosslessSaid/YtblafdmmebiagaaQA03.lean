/-
  Parts of the proof, joined: EscB EscC Norm NormB EscD EscE LexA LexB LexE LexF RfA. Conditions: as each theorem says.
-/
import Derived.Test.YtblafdmmebiagaaQA02
import Derived.Test.YtblafdmmebiagaaQA01
import Derived.Lib.AppendStr
namespace Go.Proofs.Ytblafdmmebiagaa
open Go.RowKit Go.Lib
theorem bt {a b c : World} (h : Below a.heap.size a b) (k : Below b.heap.size b c) : Below a.heap.size a c := h.trans (k.mono h.size)
theorem ba (w : World) (o : Obj) : Below w.heap.size w (w.alloc o) := (Below.refl _ w).alloc (Nat.le_refl _) _
end Go.Proofs.Ytblafdmmebiagaa
namespace Go.Proofs.Ytblafdmmebiagaa
open Go.RowKit Go.Lib
theorem cell_keep {w1 w2 : World} {p : Addr} {v : Value} (hb : Below w1.heap.size w1 w2) (h : w1.cell? p = some v) : w2.cell? p = some v :=
  (World.cell?_of_block (hb.block _ (World.block_lt_of_cell? w1 p h))).trans h
theorem Rd.apart {w w' : World} {B base n c m : Nat} {A : Option Addr} {xs ys : List Value} {e : TypeId} {size : Nat} {v : Value} (h : Rd w (fun b => b < B) 1 A n c xs) (hown : w.ownsRow base e size v m ys) (hB : B ≤ base) (hg : w.grownBy w' v.ownBlock) :
    Rd w' (fun b => b < B) 1 A n c xs :=
  h.grown hg fun g hg hb => by
    have := (hown.lt g hg).1
    have hb : g < B := hb
    omega
end Go.Proofs.Ytblafdmmebiagaa
namespace Go.Proofs.Ytblafdmmebiagaa
open Go.RowKit
end Go.Proofs.Ytblafdmmebiagaa
namespace Go.Proofs.Ytblafdmmebiagaa
open Go.RowKit
theorem Space_ok (w : World) : PredOk Try.prog 85 #[] isSpace w := fun W r _ => (Space_any r W).mono fun _ _ ⟨h1, h2⟩ => ⟨h1, h2 ▸ Below.refl _ _⟩
theorem eg_Space : ∀ args w, (callFunc 85 args).run Try.prog w = .ok (.enter 85 args) w := enters_of Try.func85 (by kernel_rfl) rfl
end Go.Proofs.Ytblafdmmebiagaa
namespace Go.Proofs.Ytblafdmmebiagaa
open Go.RowKit Go.Lib
abbrev PairL := List (ByteArray × List Int)
def pairCells : PairL → List Value → List Value
  | p :: ps, v :: vs => .string p.1 :: v :: pairCells ps vs
  | _, _ => []
theorem pairCells_take : ∀ (ps : PairL) (vs : List Value) (k : Nat), (pairCells ps vs).take (k * 2) = pairCells (ps.take k) (vs.take k)
  | _, _, 0 => by simp [pairCells]
  | [], _, k + 1 => by simp [pairCells]
  | _ :: _, [], k + 1 => by simp [pairCells]
  | p :: ps, v :: vs, k + 1 => by
    have ih := pairCells_take ps vs k
    rw [show (k + 1) * 2 = k * 2 + 1 + 1 by omega]
    simp [pairCells, ih]
structure PairsV (w : World) (S : Nat → Prop) (A : Option Addr) (n c : Nat) (ps : PairL) (vs : List Value) : Prop where
  rd : Rd w S 2 A n c (pairCells ps vs)
  len : vs.length = ps.length
  each : ∀ (k : Nat) (h : k < ps.length) (h2 : k < vs.length), RunesV w vs[k] ps[k].2
theorem PairsV.below {w w' : World} {S : Nat → Prop} {A : Option Addr} {n c : Nat} {ps : PairL} {vs : List Value} (h : PairsV w S A n c ps vs) (hb : Below w.heap.size w w') : PairsV w' S A n c ps vs :=
  ⟨h.rd.below hb, h.len, fun k h1 h2 => (h.each k h1 h2).below hb⟩
theorem PairsV.take {w : World} {S : Nat → Prop} {A : Option Addr} {n c : Nat} {ps : PairL} {vs : List Value} (h : PairsV w S A n c ps vs) {k : Nat} (hk : k ≤ n) : PairsV w S A k c (ps.take k) (vs.take k) := by
  refine ⟨by rw [← pairCells_take]; exact h.rd.take hk, by simp [h.len], fun j h1 h2 => ?_⟩
  rw [List.getElem_take, List.getElem_take]
  exact h.each j _ _
end Go.Proofs.Ytblafdmmebiagaa
namespace Go.Proofs.Ytblafdmmebiagaa
open Go.RowKit Go.Lib
theorem bb {B : Nat} {a b c : World} (h : Below B a b) (k : Below b.heap.size b c) (hB : B ≤ b.heap.size) : Below B a c := h.trans (k.mono hB)
end Go.Proofs.Ytblafdmmebiagaa
namespace Go.Proofs.Ytblafdmmebiagaa
open Go.RowKit Go.Lib
def startsF (l : List Int) (k : Nat) (bs : List UInt8) : Bool := bs.all (fun b => decide (b.toNat < 128)) && ((l.drop k).take bs.length == bi bs)
theorem starts_upto (l : List Int) (k : Nat) (bs : List UInt8) (hl : k + bs.length ≤ l.length)
    (h : ∀ i (h : i < bs.length), bs[i].toNat < 128 ∧ l[k + i]'(by omega) = bs[i].toNat) : startsF l k bs = true := by
  rw [startsF, Bool.and_eq_true]
  refine ⟨List.all_eq_true.2 fun b hb => ?_, ?_⟩
  · obtain ⟨i, hi, rfl⟩ := List.getElem_of_mem hb
    exact decide_eq_true (h i hi).1
  · rw [beq_iff_eq]
    apply List.ext_getElem
    · simp [bi]; omega
    · intro i h1 h2
      rw [List.getElem_take, List.getElem_drop]
      have hi : i < bs.length := by simpa [bi] using h2
      rw [(h i hi).2]
      simp [bi]
theorem starts_miss (l : List Int) (k : Nat) (bs : List UInt8) (i : Nat) (hi : i < bs.length) (hl : k + i < l.length) (h : ¬ (bs[i].toNat < 128 ∧ l[k + i] = bs[i].toNat)) : startsF l k bs = false := by
  cases hs : startsF l k bs with
  | false => rfl
  | true =>
    exfalso
    rw [startsF, Bool.and_eq_true, beq_iff_eq] at hs
    obtain ⟨h1, h2⟩ := hs
    refine h ⟨of_decide_eq_true (List.all_eq_true.1 h1 _ (List.getElem_mem hi)), ?_⟩
    have h3 := congrArg (fun x => x[i]?) h2
    simp only [List.getElem?_take, List.getElem?_drop, hi, if_true, bi, List.getElem?_map, List.getElem?_eq_getElem hi, List.getElem?_eq_getElem hl, Option.map_some, Option.some.injEq] at h3
    exact h3
theorem starts_short (l : List Int) (k : Nat) (bs : List UInt8) (h : l.length < k + bs.length) (hk : k ≤ l.length) : startsF l k bs = false := by
  cases hs : startsF l k bs with
  | false => rfl
  | true =>
    exfalso
    rw [startsF, Bool.and_eq_true, beq_iff_eq] at hs
    have := congrArg List.length hs.2
    simp [bi] at this
    omega
set_option maxHeartbeats 1000000 in
set_option maxRecDepth 100000 in
theorem Starts_any (S : Nat → Prop) (A : Option Addr) (n c : Nat) (l : List Int) (k : Nat) (s : ByteArray) (w : World) (hr : Rd w S 1 A n c (rc l)) (hk : k ≤ l.length) (hk9 : l.length ≤ 1000000000) (hs9 : s.size ≤ 1000000000) :
    Calls Try.prog 88 #[.slice A n c, .int .i64 k, .string s] w fun e w' => e = .returned (.bool (startsF l k s.data.toList)) ∧ Below w.heap.size w w' := by
  obtain rfl := hr.rlen
  have hle := hr.le
  have hmx : c ≤ 9223372036854775807 := hr.max
  have HR := Lib.hid hr
  clear hr
  have hsz : s.data.toList.length = s.size := by simp
  have hkl : ¬ (k : Int) > (l.length : Int) := by omega
  by_cases hshort : l.length < k + s.size
  · have HE := Lib.hid (starts_short l k s.data.toList (by omega) hk)
    have hsh : (l.length : Int) - (k : Int) < (s.size : Int) := by omega
    go_enter Try.func88, Try.ntmps88
    go_wp2
    go_ret
    exact ⟨ret_bool HE.out.symm, Below.refl _ _⟩
  · have hsh : ¬ (l.length : Int) - (k : Int) < (s.size : Int) := by omega
    go_enter Try.func88, Try.ntmps88
    go_wp2
    go_loopw [27] (fun i wr => ∃ j : Nat, j ≤ s.size ∧ i = .int .i64 j ∧ Hid (Below w.heap.size w wr) ∧ Hid (∀ i, i < j → (h1 : i < s.data.toList.length) → (h2 : k + i < l.length) → s.data.toList[i].toNat < 128 ∧ l[k + i] = s.data.toList[i].toNat)) (fun i _ => s.size - (intOf i).toNat)
    case atStart => exact ⟨0, Nat.zero_le _, rfl, Below.refl _ _, fun i h => absurd h (by omega)⟩
    case round =>
      obtain ⟨j, hj, rfl, HB, HJ⟩ := hrel
      by_cases hlt : j < s.size
      · have hlt2 : j < s.data.toList.length := by omega
        have hlt3 : j < s.data.size := hlt
        have hkj : k + j < l.length := by omega
        have hkj' : (k : Int) + (j : Int) < (l.length : Int) := by omega
        obtain ⟨b, o, rfl, hc0⟩ := (HR.out.below HB.out).rune hkj
        have hx : s.data.toList[j] = s.data[j] := by simp
        have hb := (s.data[j]).toNat_lt
        have hw : wrap32 ((s[j]).toNat : Int) = ((s.data[j]).toNat : Int) := by
          show wrap32 ((s.data[j]).toNat : Int) = _
          rw [← IntWalk.i32_left]; exact IntWalk.i32_in _ (by omega)
        have HM := Lib.hid (starts_miss l k s.data.toList j hlt2 hkj)
        have HX := Lib.hid hx
        rw [hx] at HM
        have HJ2 : (s.data[j]).toNat < 128 → l[k + j] = (s.data[j]).toNat → Hid (∀ i, i < j + 1 → (h1 : i < s.data.toList.length) → (h2 : k + i < l.length) → s.data.toList[i].toNat < 128 ∧ l[k + i] = s.data.toList[i].toNat) := fun e1 e2 i hi h1 h2 => by
          by_cases e : i = j
          · subst e; rw [HX.out]; exact ⟨e1, e2⟩
          · exact HJ.out i (by omega) h1 h2
        clear hx
        generalize l[k + j] = r at hc0 HM HJ2
        by_cases h128 : (s.data[j]).toNat < 128
        · have hge : ¬ ((s.data[j]).toNat : Int) ≥ 128 := by omega
          have hge3 : decide ((128 : Int) ≤ ((s[j]).toNat : Int)) = false := by show decide ((128 : Int) ≤ ((s.data[j]).toNat : Int)) = false; rw [decide_eq_false_iff_not]; omega
          by_cases hrb : r = (s.data[j]).toNat
          · have HJ3 := HJ2 h128 hrb
            have hn : (r != ((s.data[j]).toNat : Int)) = false := by simpa using hrb
            clear HJ2 HM
            go_wp2
            go_quiet (fail)
            go_wp2
            go_roundw
            case rel => exact ⟨j + 1, by omega, by go_num, below_drewN HB.out _, HJ3.out⟩
            case measure => simp [intOf]; omega
          · have HE : Hid (startsF l k s.data.toList = false) := HM.out fun h => hrb h.2
            have hn : (r != ((s.data[j]).toNat : Int)) = true := by simpa using hrb
            clear HJ2 HM
            go_wp2
            go_quiet (fail)
            go_wp2
            go_ret
            exact ⟨ret_bool HE.out.symm, below_drewN HB.out _⟩
        · have hge : ((s.data[j]).toNat : Int) ≥ 128 := by omega
          have hge3 : decide ((128 : Int) ≤ ((s[j]).toNat : Int)) = true := by show decide ((128 : Int) ≤ ((s.data[j]).toNat : Int)) = true; rw [decide_eq_true_iff]; omega
          have HE : Hid (startsF l k s.data.toList = false) := HM.out fun h => h128 h.1
          clear HJ2 HM
          go_wp2
          go_quiet (fail)
          go_wp2
          go_ret
          exact ⟨ret_bool HE.out.symm, below_drewN HB.out _⟩
      · have HE : Hid (startsF l k s.data.toList = true) := starts_upto l k _ (by omega) fun i h => HJ.out i (by omega) h (by omega)
        go_wp2
        go_ret
        exact ⟨ret_bool HE.out.symm, HB.out⟩
end Go.Proofs.Ytblafdmmebiagaa
namespace Go.Proofs.Ytblafdmmebiagaa
open Go.RowKit Go.Lib
def findF (l : List Int) (k t : Nat) (bs : List UInt8) : Option Nat := (List.range' k (t + 1 - bs.length - k)).find? (fun i => startsF l i bs)
theorem findF_hit (l : List Int) (k t : Nat) (bs : List UInt8) (j : Nat) (hk : k ≤ j) (ht : j + bs.length ≤ t) (h : ∀ i, k ≤ i → i < j → startsF l i bs = false) (hj : startsF l j bs = true) : findF l k t bs = some j := by
  rw [findF, List.find?_range'_eq_some]
  exact ⟨hj, List.mem_range'_1.2 ⟨hk, by omega⟩, fun i h1 h2 => by rw [h i h1 h2]; rfl⟩
theorem findF_none (l : List Int) (k t : Nat) (bs : List UInt8) (h : ∀ i, k ≤ i → i + bs.length ≤ t → startsF l i bs = false) : findF l k t bs = none := by
  rw [findF, List.find?_eq_none]
  intro i hi
  have := List.mem_range'_1.1 hi
  rw [h i this.1 (by omega)]
  decide
set_option maxHeartbeats 1000000 in
set_option maxRecDepth 100000 in
theorem LFind_any (S : Nat → Prop) (A : Option Addr) (n c : Nat) (l : List Int) (k t : Nat) (s : ByteArray) (w : World) (hr : Rd w S 1 A n c (rc l)) (hk : k ≤ l.length) (ht : t ≤ l.length) (hk9 : l.length ≤ 1000000000) (hs9 : s.size ≤ 1000000000) :
    Calls Try.prog 102 #[.slice A n c, .int .i64 k, .int .i64 t, .string s] w fun e w' => e = .returned (.tuple #[.int .i64 ((findF l k t s.data.toList).getD 0), .bool (findF l k t s.data.toList).isSome]) ∧ Below w.heap.size w w' := by
  obtain rfl := hr.rlen
  have hle := hr.le
  have hmx : c ≤ 9223372036854775807 := hr.max
  have HR := Lib.hid hr
  clear hr
  have hkl : ¬ (k : Int) > (l.length : Int) := by omega
  have htl : ¬ (t : Int) > (l.length : Int) := by omega
  have hsz : s.data.toList.length = s.size := by simp
  have HS := fun W (j : Nat) (hj : j ≤ l.length) (h : Below w.heap.size w W) => Lib.hid (Starts_any S A l.length c l j s W (HR.out.below h) hj hk9 hs9)
  have HH := Lib.hid (findF_hit l k t s.data.toList)
  have HN := Lib.hid (findF_none l k t s.data.toList)
  generalize findF l k t s.data.toList = q at HH HN ⊢
  go_enter Try.func102, Try.ntmps102
  go_wp2
  go_loopw [10] (fun i wr => ∃ j : Nat, k ≤ j ∧ j ≤ l.length + 1 ∧ i = .int .i64 j ∧ Hid (Below w.heap.size w wr) ∧ Hid (∀ i, k ≤ i → i < j → startsF l i s.data.toList = false)) (fun i _ => l.length + 1 - (intOf i).toNat)
  case atStart => exact ⟨k, Nat.le_refl _, by omega, rfl, Below.refl _ _, fun i h1 h2 => absurd h2 (by omega)⟩
  case round =>
    obtain ⟨j, hj1, hj2, rfl, HB, HJ⟩ := hrel
    by_cases hlt : j + s.size ≤ t
    · have hlt2 : (j : Int) ≤ (t : Int) - (s.size : Int) := by omega
      have HC := HS _ j (by omega) HB.out
      cases hq : startsF l j s.data.toList with
      | true =>
        rw [hq] at HC
        have HE : Hid (q = some j) := HH.out j hj1 (by omega) HJ.out hq
        clear hq
        go_wp2_with (go_at_call 88; refine HC.out.mono ?_; rintro e w' ⟨rfl, hb⟩)
        go_ret2
        rw [HE.out]
        exact ⟨rfl, HB.out.trans (hb.mono HB.out.size)⟩
      | false =>
        rw [hq] at HC
        have HJ2 : Hid (∀ i, k ≤ i → i < j + 1 → startsF l i s.data.toList = false) := fun i h1 h2 => by
          by_cases e : i = j
          · subst e; exact hq
          · exact HJ.out i h1 (by omega)
        clear hq
        go_wp2_with (go_at_call 88; refine HC.out.mono ?_; rintro e w' ⟨rfl, hb⟩)
        go_roundw
        case rel => exact ⟨j + 1, by omega, by omega, by go_num, HB.out.trans (hb.mono HB.out.size), HJ2.out⟩
        case measure => simp [intOf]; omega
    · have hlt2 : ¬ (j : Int) ≤ (t : Int) - (s.size : Int) := by omega
      have HE : Hid (q = none) := HN.out fun i h1 h2 => HJ.out i h1 (by omega)
      go_wp2
      go_ret2
      rw [HE.out]
      exact ⟨rfl, HB.out⟩
end Go.Proofs.Ytblafdmmebiagaa
namespace Go.Proofs.Ytblafdmmebiagaa
open Go.RowKit Go.Lib
end Go.Proofs.Ytblafdmmebiagaa
namespace Go.Proofs.Ytblafdmmebiagaa
open Go.RowKit Go.Lib
end Go.Proofs.Ytblafdmmebiagaa
namespace Go.Proofs.Ytblafdmmebiagaa
open Go.RowKit Go.Lib
def isDig (r : Int) : Bool := (digitF r).2
def isHex (r : Int) : Bool := (hexF r).2
def endedF (l : List Int) (p n : Nat) : Bool := decide (0 < n) && (l[p + n]? == some 59)
def digN (l : List Int) (k : Nat) : Nat := ((l.drop (k + 2)).takeWhile isDig).length
def hexN (l : List Int) (k : Nat) : Nat := ((l.drop (k + 3)).takeWhile isHex).length
def refF (l : List Int) (k : Nat) : Nat × Nat × Bool :=
  if startsF l k [38, 35, 120] && endedF l (k + 3) (hexN l k) then (3, k + 4 + hexN l k, true)
  else if startsF l k [38, 35] && endedF l (k + 2) (digN l k) then (3, k + 3 + digN l k, true)
  else if endedF l (k + 1) (leadF l (k + 1)) then (2, k + 2 + leadF l (k + 1), true)
  else (11, k + 1, false)
theorem lead_shift (l : List Int) (k p : Nat) : leadF l (k + p) = leadF (l.drop k) p := by
  rw [leadF, leadF, List.getElem?_drop, List.drop_drop]
theorem refF_pos (l : List Int) (k : Nat) : k < (refF l k).2.1 := by
  unfold refF
  repeat' split
  all_goals (simp only; omega)
theorem ended_le (l : List Int) (p n : Nat) (h : endedF l p n = true) : p + n < l.length := by
  rw [endedF, Bool.and_eq_true, beq_iff_eq] at h
  exact (List.getElem?_eq_some_iff.1 h.2).1
theorem refF_le (l : List Int) (k : Nat) (hk : k < l.length) : (refF l k).2.1 ≤ l.length := by
  unfold refF
  split
  · rename_i h
    have := ended_le _ _ _ (Bool.and_eq_true_iff.1 h).2
    simp only; omega
  · split
    · rename_i h
      have := ended_le _ _ _ (Bool.and_eq_true_iff.1 h).2
      simp only; omega
    · split
      · rename_i h
        have := ended_le _ _ _ h
        simp only; omega
      · simp only; omega
end Go.Proofs.Ytblafdmmebiagaa
