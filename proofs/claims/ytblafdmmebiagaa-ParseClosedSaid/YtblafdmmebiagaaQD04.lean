/-
  Parts of the proof, joined: RefC Name Put PutB PutC PutD PutE Esc EscB EscC Norm NormB EscD EscE LexA LexB LexE LexF RfA LexC Sb. Conditions: as each theorem says.
-/
import Derived.Test.YtblafdmmebiagaaQD02
import Derived.Test.YtblafdmmebiagaaQD01
import Derived.Deep.RegionWith
import Derived.Lib.AppendStr
import Derived.Lib.Builder
import Derived.Lib.UnsafeStr
namespace Go.Proofs.Ytblafdmmebiagaa
open Go.RowKit Go.Lib
end Go.Proofs.Ytblafdmmebiagaa
namespace Go.Proofs.Ytblafdmmebiagaa
open Go.RowKit Go.Lib
theorem Rd.rune {w : World} {S : Nat → Prop} {n c : Nat} {A : Option Addr} {l : List Int} (h : Rd w S 1 A n c (rc l)) {k : Nat} (hk : k < l.length) :
    ∃ b o, A = some ⟨b, o, none⟩ ∧ w.cell? ⟨b, o + k, none⟩ = some (.int .i32 l[k]) := by
  have hl := h.len
  obtain ⟨b, o, u, e, _, hu, hc⟩ := h.one (k := k) (by simp at hl; omega)
  obtain ⟨_, rfl⟩ := rc_get hu
  exact ⟨b, o, e, hc⟩
theorem Rd.rlen {w : World} {S : Nat → Prop} {n c : Nat} {A : Option Addr} {l : List Int} (h : Rd w S 1 A n c (rc l)) : n = l.length := by have := h.len; simpa using this.symm
theorem NameChar_ok (w : World) : PredOk Try.prog 101 #[] isNameChar w := fun W r _ => NameChar_any r W
theorem eg_NameChar : ∀ args w, (callFunc 101 args).run Try.prog w = .ok (.enter 101 args) w := enters_of Try.func101 (by kernel_rfl) rfl
def leadF (l : List Int) (k : Nat) : Nat := match l[k]? with
  | none => 0
  | some r => if isNameStart r then ((l.drop k).takeWhile isNameChar).length else 0
set_option maxHeartbeats 1000000 in
set_option maxRecDepth 100000 in
theorem NLead_any (S : Nat → Prop) (A : Option Addr) (n c : Nat) (l : List Int) (k : Nat) (w : World) (hr : Rd w S 1 A n c (rc l)) (hk : k ≤ 1000000000) :
    Calls Try.prog 86 #[.slice A n c, .int .i64 k] w fun e w' => e = .returned (.int .i64 (leadF l k)) ∧ Below w.heap.size w w' := by
  obtain rfl := hr.rlen
  have hle := hr.le
  have hmx : c ≤ 9223372036854775807 := hr.max
  have HR := Lib.hid hr
  clear hr
  by_cases hlt : k < l.length
  · obtain ⟨b, o, rfl, hc0⟩ := HR.out.rune hlt
    have hkl : ¬ (k : Int) ≥ (l.length : Int) := by omega
    have HS := fun w => Lib.hid (NameStart_any l[k] w)
    have HL : Hid (leadF l k = if isNameStart l[k] then ((l.drop k).takeWhile isNameChar).length else 0) := by rw [Hid, leadF, List.getElem?_eq_getElem hlt]
    have HF : Hid (runF isNameChar l k = ((l.drop k).takeWhile isNameChar).length) := by rw [Hid, runF, if_neg (by omega), Int.toNat_natCast]
    generalize l[k] = r at hc0 HS HL
    cases hs : isNameStart r with
    | true =>
      rw [hs] at HS HL
      go_enter Try.func86, Try.ntmps86
      go_wp2_with (first
        | (go_at_call 100; refine (HS _).out.mono ?_; rintro e w' ⟨rfl, hb⟩)
        | (go_at_call 81; refine (Run_any S _ l.length c l k _ #[] isNameChar w' eg_NameChar (HR.out.below hb) (NameChar_ok w')).mono ?_; rintro e w2 ⟨rfl, hb2⟩))
      go_ret
      exact ⟨ret_int (by rw [HL.out, HF.out]; rfl), hb.trans (hb2.mono hb.size)⟩
    | false =>
      rw [hs] at HS HL
      go_enter Try.func86, Try.ntmps86
      go_wp2_with (go_at_call 100; refine (HS _).out.mono ?_; rintro e w' ⟨rfl, hb⟩)
      go_ret
      exact ⟨ret_int (by rw [HL.out]; rfl), hb⟩
  · have hkl : (k : Int) ≥ (l.length : Int) := by omega
    have HL : Hid (leadF l k = 0) := by rw [Hid, leadF, List.getElem?_eq_none (by omega)]
    go_enter Try.func86, Try.ntmps86
    go_wp2
    go_ret
    exact ⟨ret_int (by rw [HL.out]; rfl), Below.refl _ _⟩
end Go.Proofs.Ytblafdmmebiagaa
namespace Go.Proofs.Ytblafdmmebiagaa
open Go.RowKit Go.Lib
def bi (l : List UInt8) : List Int := l.map fun b => (b.toNat : Int)
theorem getD_at {l : List Int} {k : Nat} (h : k < l.length) : l.getD k 0 = l[k] := by simp [List.getD, h]
end Go.Proofs.Ytblafdmmebiagaa
namespace Go.Proofs.Ytblafdmmebiagaa
open Go.RowKit Go.Lib
abbrev IterIn (wr : World) (ib : Nat) (s : ByteArray) (pos : Nat) : Prop := wr.heap[ib]? = some (.stringIter s pos)
theorem IterIn.lt {wr : World} {ib : Nat} {s : ByteArray} {pos : Nat} (h : IterIn wr ib s pos) : ib < wr.heap.size := (Array.getElem?_eq_some_iff.1 h).1
theorem IterIn.set {wr : World} {ib : Nat} {s : ByteArray} {pos pos' : Nat} (h : IterIn wr ib s pos) : IterIn (World.iterSet wr ib s pos') ib s pos' := by
  have hlt := IterIn.lt h
  show (wr.heap.setIfInBounds ib _)[ib]? = _
  rw [Array.getElem?_setIfInBounds_self_of_lt hlt]
theorem IterIn.grown {wr w2 : World} {ib : Nat} {s : ByteArray} {pos : Nat} {row : Option Nat} (h : IterIn wr ib s pos) (hg : wr.grownBy w2 row) (hr : row ≠ some ib) : IterIn w2 ib s pos :=
  (hg.block ib (IterIn.lt h) (fun e => hr e.symm)).trans h
theorem IterIn.alloc {wr : World} {ib : Nat} {s : ByteArray} {pos : Nat} (h : IterIn wr ib s pos) (o : Obj) : IterIn (wr.alloc o) ib s pos := (Below.heap_alloc wr o _ (IterIn.lt h)).trans h
end Go.Proofs.Ytblafdmmebiagaa
namespace Go.Proofs.Ytblafdmmebiagaa
open Go.RowKit Go.Lib
end Go.Proofs.Ytblafdmmebiagaa
namespace Go.Proofs.Ytblafdmmebiagaa
open Go.RowKit Go.Lib
end Go.Proofs.Ytblafdmmebiagaa
namespace Go.Proofs.Ytblafdmmebiagaa
open Go.RowKit Go.Lib
end Go.Proofs.Ytblafdmmebiagaa
namespace Go.Proofs.Ytblafdmmebiagaa
open Go.RowKit Go.Lib
theorem RunesV.lit (w : World) (B : Nat) (hB : w.heap.size = B) (t : TypeId) (l : List Int) (n : Nat) (hn : l.length = n) (hm : n ≤ maxLen) (cs : Array Value) (hcs : cs.toList = rc l) : RunesV (w.alloc (.cells cs t)) (.slice (some ⟨B, 0, none⟩) n n) l := by
  subst hn
  refine .of_rd (S := fun b => B ≤ b) ?_
  have := Rd.litN w B hB t cs 1 l.length (by have := congrArg List.length hcs; simpa using this) hm
  rwa [hcs] at this
theorem RunesV.len {w : World} {v : Value} {l : List Int} (h : RunesV w v l) : ∃ A c, v = .slice A l.length c ∧ Rd w (fun _ => True) 1 A l.length c (rc l) := by
  obtain ⟨A, n, c, rfl, hr⟩ := h
  obtain rfl := hr.rlen
  exact ⟨A, c, rfl, hr⟩
theorem RowsV.lit (w : World) (B : Nat) (hB : w.heap.size = B) (t : TypeId) (vs : List Value) (ls : List (List Int)) (n : Nat) (hn : vs.length = n) (hl : vs.length = ls.length) (hm : n ≤ maxLen)
    (h : ∀ (i : Nat) (v : Value) (l : List Int), vs[i]? = some v → ls[i]? = some l → RunesV w v l) (cs : Array Value) (hcs : cs.toList = vs) : RowsV (w.alloc (.cells cs t)) (some ⟨B, 0, none⟩) n n ls vs := by
  subst hcs
  refine ⟨?_, hl, fun i v l h1 h2 => (h i v l h1 h2).alloc _⟩
  subst hn
  exact (Rd.litN w B hB t cs 1 cs.toList.length (by simp) hm).more fun _ _ => trivial
end Go.Proofs.Ytblafdmmebiagaa
namespace Go.Proofs.Ytblafdmmebiagaa
open Go.RowKit Go.Lib
theorem bt {a b c : World} (h : Below a.heap.size a b) (k : Below b.heap.size b c) : Below a.heap.size a c := h.trans (k.mono h.size)
theorem ba (w : World) (o : Obj) : Below w.heap.size w (w.alloc o) := (Below.refl _ w).alloc (Nat.le_refl _) _
end Go.Proofs.Ytblafdmmebiagaa
namespace Go.Proofs.Ytblafdmmebiagaa
open Go.RowKit Go.Lib
theorem cell_keep {w1 w2 : World} {p : Addr} {v : Value} (hb : Below w1.heap.size w1 w2) (h : w1.cell? p = some v) : w2.cell? p = some v :=
  (World.cell?_of_block (hb.block _ (World.block_lt_of_cell? w1 p h))).trans h
theorem box_cell (w : World) (cs : Array Value) (t : TypeId) (k : Nat) {u : Value} (h : cs[k]? = some u) : (w.alloc (.cells cs t)).cell? ⟨w.heap.size, k, none⟩ = some u := by
  rw [World.cell?_alloc_at _ _ _ _ rfl]; exact h
theorem Rd.apart {w w' : World} {B base n c m : Nat} {A : Option Addr} {xs ys : List Value} {e : TypeId} {size : Nat} {v : Value} (h : Rd w (fun b => b < B) 1 A n c xs) (hown : w.ownsRow base e size v m ys) (hB : B ≤ base) (hg : w.grownBy w' v.ownBlock) :
    Rd w' (fun b => b < B) 1 A n c xs :=
  h.grown hg fun g hg hb => by
    have := (hown.lt g hg).1
    have hb : g < B := hb
    omega
end Go.Proofs.Ytblafdmmebiagaa
namespace Go.Proofs.Ytblafdmmebiagaa
open Go.RowKit
end Go.Proofs.Ytblafdmmebiagaa
namespace Go.Proofs.Ytblafdmmebiagaa
open Go.RowKit
theorem Space_ok (w : World) : PredOk Try.prog 85 #[] isSpace w := fun W r _ => (Space_any r W).mono fun _ _ ⟨h1, h2⟩ => ⟨h1, h2 ▸ Below.refl _ _⟩
theorem eg_Space : ∀ args w, (callFunc 85 args).run Try.prog w = .ok (.enter 85 args) w := enters_of Try.func85 (by kernel_rfl) rfl
end Go.Proofs.Ytblafdmmebiagaa
namespace Go.Proofs.Ytblafdmmebiagaa
open Go.RowKit Go.Lib
abbrev PairL := List (ByteArray × List Int)
def pairCells : PairL → List Value → List Value
  | p :: ps, v :: vs => .string p.1 :: v :: pairCells ps vs
  | _, _ => []
theorem pairCells_take : ∀ (ps : PairL) (vs : List Value) (k : Nat), (pairCells ps vs).take (k * 2) = pairCells (ps.take k) (vs.take k)
  | _, _, 0 => by simp [pairCells]
  | [], _, k + 1 => by simp [pairCells]
  | _ :: _, [], k + 1 => by simp [pairCells]
  | p :: ps, v :: vs, k + 1 => by
    have ih := pairCells_take ps vs k
    rw [show (k + 1) * 2 = k * 2 + 1 + 1 by omega]
    simp [pairCells, ih]
structure PairsV (w : World) (S : Nat → Prop) (A : Option Addr) (n c : Nat) (ps : PairL) (vs : List Value) : Prop where
  rd : Rd w S 2 A n c (pairCells ps vs)
  len : vs.length = ps.length
  each : ∀ (k : Nat) (h : k < ps.length) (h2 : k < vs.length), RunesV w vs[k] ps[k].2
theorem PairsV.below {w w' : World} {S : Nat → Prop} {A : Option Addr} {n c : Nat} {ps : PairL} {vs : List Value} (h : PairsV w S A n c ps vs) (hb : Below w.heap.size w w') : PairsV w' S A n c ps vs :=
  ⟨h.rd.below hb, h.len, fun k h1 h2 => (h.each k h1 h2).below hb⟩
theorem PairsV.take {w : World} {S : Nat → Prop} {A : Option Addr} {n c : Nat} {ps : PairL} {vs : List Value} (h : PairsV w S A n c ps vs) {k : Nat} (hk : k ≤ n) : PairsV w S A k c (ps.take k) (vs.take k) := by
  refine ⟨by rw [← pairCells_take]; exact h.rd.take hk, by simp [h.len], fun j h1 h2 => ?_⟩
  rw [List.getElem_take, List.getElem_take]
  exact h.each j _ _
end Go.Proofs.Ytblafdmmebiagaa
namespace Go.Proofs.Ytblafdmmebiagaa
open Go.RowKit Go.Lib
theorem bb {B : Nat} {a b c : World} (h : Below B a b) (k : Below b.heap.size b c) (hB : B ≤ b.heap.size) : Below B a c := h.trans (k.mono hB)
end Go.Proofs.Ytblafdmmebiagaa
namespace Go.Proofs.Ytblafdmmebiagaa
open Go.RowKit Go.Lib
def startsF (l : List Int) (k : Nat) (bs : List UInt8) : Bool := bs.all (fun b => decide (b.toNat < 128)) && ((l.drop k).take bs.length == bi bs)
theorem starts_upto (l : List Int) (k : Nat) (bs : List UInt8) (hl : k + bs.length ≤ l.length)
    (h : ∀ i (h : i < bs.length), bs[i].toNat < 128 ∧ l[k + i]'(by omega) = bs[i].toNat) : startsF l k bs = true := by
  rw [startsF, Bool.and_eq_true]
  refine ⟨List.all_eq_true.2 fun b hb => ?_, ?_⟩
  · obtain ⟨i, hi, rfl⟩ := List.getElem_of_mem hb
    exact decide_eq_true (h i hi).1
  · rw [beq_iff_eq]
    apply List.ext_getElem
    · simp [bi]; omega
    · intro i h1 h2
      rw [List.getElem_take, List.getElem_drop]
      have hi : i < bs.length := by simpa [bi] using h2
      rw [(h i hi).2]
      simp [bi]
theorem starts_miss (l : List Int) (k : Nat) (bs : List UInt8) (i : Nat) (hi : i < bs.length) (hl : k + i < l.length) (h : ¬ (bs[i].toNat < 128 ∧ l[k + i] = bs[i].toNat)) : startsF l k bs = false := by
  cases hs : startsF l k bs with
  | false => rfl
  | true =>
    exfalso
    rw [startsF, Bool.and_eq_true, beq_iff_eq] at hs
    obtain ⟨h1, h2⟩ := hs
    refine h ⟨of_decide_eq_true (List.all_eq_true.1 h1 _ (List.getElem_mem hi)), ?_⟩
    have h3 := congrArg (fun x => x[i]?) h2
    simp only [List.getElem?_take, List.getElem?_drop, hi, if_true, bi, List.getElem?_map, List.getElem?_eq_getElem hi, List.getElem?_eq_getElem hl, Option.map_some, Option.some.injEq] at h3
    exact h3
theorem starts_short (l : List Int) (k : Nat) (bs : List UInt8) (h : l.length < k + bs.length) (hk : k ≤ l.length) : startsF l k bs = false := by
  cases hs : startsF l k bs with
  | false => rfl
  | true =>
    exfalso
    rw [startsF, Bool.and_eq_true, beq_iff_eq] at hs
    have := congrArg List.length hs.2
    simp [bi] at this
    omega
set_option maxHeartbeats 1000000 in
set_option maxRecDepth 100000 in
theorem Starts_any (S : Nat → Prop) (A : Option Addr) (n c : Nat) (l : List Int) (k : Nat) (s : ByteArray) (w : World) (hr : Rd w S 1 A n c (rc l)) (hk : k ≤ l.length) (hk9 : l.length ≤ 1000000000) (hs9 : s.size ≤ 1000000000) :
    Calls Try.prog 88 #[.slice A n c, .int .i64 k, .string s] w fun e w' => e = .returned (.bool (startsF l k s.data.toList)) ∧ Below w.heap.size w w' := by
  obtain rfl := hr.rlen
  have hle := hr.le
  have hmx : c ≤ 9223372036854775807 := hr.max
  have HR := Lib.hid hr
  clear hr
  have hsz : s.data.toList.length = s.size := by simp
  have hkl : ¬ (k : Int) > (l.length : Int) := by omega
  by_cases hshort : l.length < k + s.size
  · have HE := Lib.hid (starts_short l k s.data.toList (by omega) hk)
    have hsh : (l.length : Int) - (k : Int) < (s.size : Int) := by omega
    go_enter Try.func88, Try.ntmps88
    go_wp2
    go_ret
    exact ⟨ret_bool HE.out.symm, Below.refl _ _⟩
  · have hsh : ¬ (l.length : Int) - (k : Int) < (s.size : Int) := by omega
    go_enter Try.func88, Try.ntmps88
    go_wp2
    go_loopw [27] (fun i wr => ∃ j : Nat, j ≤ s.size ∧ i = .int .i64 j ∧ Hid (Below w.heap.size w wr) ∧ Hid (∀ i, i < j → (h1 : i < s.data.toList.length) → (h2 : k + i < l.length) → s.data.toList[i].toNat < 128 ∧ l[k + i] = s.data.toList[i].toNat)) (fun i _ => s.size - (intOf i).toNat)
    case atStart => exact ⟨0, Nat.zero_le _, rfl, Below.refl _ _, fun i h => absurd h (by omega)⟩
    case round =>
      obtain ⟨j, hj, rfl, HB, HJ⟩ := hrel
      by_cases hlt : j < s.size
      · have hlt2 : j < s.data.toList.length := by omega
        have hlt3 : j < s.data.size := hlt
        have hkj : k + j < l.length := by omega
        have hkj' : (k : Int) + (j : Int) < (l.length : Int) := by omega
        obtain ⟨b, o, rfl, hc0⟩ := (HR.out.below HB.out).rune hkj
        have hx : s.data.toList[j] = s.data[j] := by simp
        have hb := (s.data[j]).toNat_lt
        have hw : wrap32 ((s[j]).toNat : Int) = ((s.data[j]).toNat : Int) := by
          show wrap32 ((s.data[j]).toNat : Int) = _
          rw [← IntWalk.i32_left]; exact IntWalk.i32_in _ (by omega)
        have HM := Lib.hid (starts_miss l k s.data.toList j hlt2 hkj)
        have HX := Lib.hid hx
        rw [hx] at HM
        have HJ2 : (s.data[j]).toNat < 128 → l[k + j] = (s.data[j]).toNat → Hid (∀ i, i < j + 1 → (h1 : i < s.data.toList.length) → (h2 : k + i < l.length) → s.data.toList[i].toNat < 128 ∧ l[k + i] = s.data.toList[i].toNat) := fun e1 e2 i hi h1 h2 => by
          by_cases e : i = j
          · subst e; rw [HX.out]; exact ⟨e1, e2⟩
          · exact HJ.out i (by omega) h1 h2
        clear hx
        generalize l[k + j] = r at hc0 HM HJ2
        by_cases h128 : (s.data[j]).toNat < 128
        · have hge : ¬ ((s.data[j]).toNat : Int) ≥ 128 := by omega
          have hge3 : decide ((128 : Int) ≤ ((s[j]).toNat : Int)) = false := by show decide ((128 : Int) ≤ ((s.data[j]).toNat : Int)) = false; rw [decide_eq_false_iff_not]; omega
          by_cases hrb : r = (s.data[j]).toNat
          · have HJ3 := HJ2 h128 hrb
            have hn : (r != ((s.data[j]).toNat : Int)) = false := by simpa using hrb
            clear HJ2 HM
            go_wp2
            go_quiet (fail)
            go_wp2
            go_roundw
            case rel => exact ⟨j + 1, by omega, by go_num, below_drewN HB.out _, HJ3.out⟩
            case measure => simp [intOf]; omega
          · have HE : Hid (startsF l k s.data.toList = false) := HM.out fun h => hrb h.2
            have hn : (r != ((s.data[j]).toNat : Int)) = true := by simpa using hrb
            clear HJ2 HM
            go_wp2
            go_quiet (fail)
            go_wp2
            go_ret
            exact ⟨ret_bool HE.out.symm, below_drewN HB.out _⟩
        · have hge : ((s.data[j]).toNat : Int) ≥ 128 := by omega
          have hge3 : decide ((128 : Int) ≤ ((s[j]).toNat : Int)) = true := by show decide ((128 : Int) ≤ ((s.data[j]).toNat : Int)) = true; rw [decide_eq_true_iff]; omega
          have HE : Hid (startsF l k s.data.toList = false) := HM.out fun h => h128 h.1
          clear HJ2 HM
          go_wp2
          go_quiet (fail)
          go_wp2
          go_ret
          exact ⟨ret_bool HE.out.symm, below_drewN HB.out _⟩
      · have HE : Hid (startsF l k s.data.toList = true) := starts_upto l k _ (by omega) fun i h => HJ.out i (by omega) h (by omega)
        go_wp2
        go_ret
        exact ⟨ret_bool HE.out.symm, HB.out⟩
end Go.Proofs.Ytblafdmmebiagaa
namespace Go.Proofs.Ytblafdmmebiagaa
open Go.RowKit Go.Lib
def findF (l : List Int) (k t : Nat) (bs : List UInt8) : Option Nat := (List.range' k (t + 1 - bs.length - k)).find? (fun i => startsF l i bs)
theorem findF_hit (l : List Int) (k t : Nat) (bs : List UInt8) (j : Nat) (hk : k ≤ j) (ht : j + bs.length ≤ t) (h : ∀ i, k ≤ i → i < j → startsF l i bs = false) (hj : startsF l j bs = true) : findF l k t bs = some j := by
  rw [findF, List.find?_range'_eq_some]
  exact ⟨hj, List.mem_range'_1.2 ⟨hk, by omega⟩, fun i h1 h2 => by rw [h i h1 h2]; rfl⟩
theorem findF_none (l : List Int) (k t : Nat) (bs : List UInt8) (h : ∀ i, k ≤ i → i + bs.length ≤ t → startsF l i bs = false) : findF l k t bs = none := by
  rw [findF, List.find?_eq_none]
  intro i hi
  have := List.mem_range'_1.1 hi
  rw [h i this.1 (by omega)]
  decide
set_option maxHeartbeats 1000000 in
set_option maxRecDepth 100000 in
theorem LFind_any (S : Nat → Prop) (A : Option Addr) (n c : Nat) (l : List Int) (k t : Nat) (s : ByteArray) (w : World) (hr : Rd w S 1 A n c (rc l)) (hk : k ≤ l.length) (ht : t ≤ l.length) (hk9 : l.length ≤ 1000000000) (hs9 : s.size ≤ 1000000000) :
    Calls Try.prog 102 #[.slice A n c, .int .i64 k, .int .i64 t, .string s] w fun e w' => e = .returned (.tuple #[.int .i64 ((findF l k t s.data.toList).getD 0), .bool (findF l k t s.data.toList).isSome]) ∧ Below w.heap.size w w' := by
  obtain rfl := hr.rlen
  have hle := hr.le
  have hmx : c ≤ 9223372036854775807 := hr.max
  have HR := Lib.hid hr
  clear hr
  have hkl : ¬ (k : Int) > (l.length : Int) := by omega
  have htl : ¬ (t : Int) > (l.length : Int) := by omega
  have hsz : s.data.toList.length = s.size := by simp
  have HS := fun W (j : Nat) (hj : j ≤ l.length) (h : Below w.heap.size w W) => Lib.hid (Starts_any S A l.length c l j s W (HR.out.below h) hj hk9 hs9)
  have HH := Lib.hid (findF_hit l k t s.data.toList)
  have HN := Lib.hid (findF_none l k t s.data.toList)
  generalize findF l k t s.data.toList = q at HH HN ⊢
  go_enter Try.func102, Try.ntmps102
  go_wp2
  go_loopw [10] (fun i wr => ∃ j : Nat, k ≤ j ∧ j ≤ l.length + 1 ∧ i = .int .i64 j ∧ Hid (Below w.heap.size w wr) ∧ Hid (∀ i, k ≤ i → i < j → startsF l i s.data.toList = false)) (fun i _ => l.length + 1 - (intOf i).toNat)
  case atStart => exact ⟨k, Nat.le_refl _, by omega, rfl, Below.refl _ _, fun i h1 h2 => absurd h2 (by omega)⟩
  case round =>
    obtain ⟨j, hj1, hj2, rfl, HB, HJ⟩ := hrel
    by_cases hlt : j + s.size ≤ t
    · have hlt2 : (j : Int) ≤ (t : Int) - (s.size : Int) := by omega
      have HC := HS _ j (by omega) HB.out
      cases hq : startsF l j s.data.toList with
      | true =>
        rw [hq] at HC
        have HE : Hid (q = some j) := HH.out j hj1 (by omega) HJ.out hq
        clear hq
        go_wp2_with (go_at_call 88; refine HC.out.mono ?_; rintro e w' ⟨rfl, hb⟩)
        go_ret2
        rw [HE.out]
        exact ⟨rfl, HB.out.trans (hb.mono HB.out.size)⟩
      | false =>
        rw [hq] at HC
        have HJ2 : Hid (∀ i, k ≤ i → i < j + 1 → startsF l i s.data.toList = false) := fun i h1 h2 => by
          by_cases e : i = j
          · subst e; exact hq
          · exact HJ.out i h1 (by omega)
        clear hq
        go_wp2_with (go_at_call 88; refine HC.out.mono ?_; rintro e w' ⟨rfl, hb⟩)
        go_roundw
        case rel => exact ⟨j + 1, by omega, by omega, by go_num, HB.out.trans (hb.mono HB.out.size), HJ2.out⟩
        case measure => simp [intOf]; omega
    · have hlt2 : ¬ (j : Int) ≤ (t : Int) - (s.size : Int) := by omega
      have HE : Hid (q = none) := HN.out fun i h1 h2 => HJ.out i h1 (by omega)
      go_wp2
      go_ret2
      rw [HE.out]
      exact ⟨rfl, HB.out⟩
end Go.Proofs.Ytblafdmmebiagaa
namespace Go.Proofs.Ytblafdmmebiagaa
open Go.RowKit Go.Lib
def bytesF (l : List Int) : List UInt8 := l.flatMap runeF
theorem enc8_rune (r : Int) (h : 0 < widthF r) : enc8 r = encodeRune r := by
  unfold widthF at h
  split at h
  · omega
  · rename_i h1
    have hv : Utf8.valid r = true := by simp [Utf8.valid]; omega
    by_cases h2 : r < 128
    · rw [enc8_small r (by omega) h2, encodeRune, encodeRuneZ_one (by omega) (by omega)]; rfl
    · unfold enc8 Utf8.encode
      simp only [hv, if_true]
      rw [if_neg (by omega)]
      by_cases h3 : r < 2048
      · rw [if_pos (by omega), encodeRune, encodeRuneZ_two (by omega) (by omega)]
        simp only [List.map_cons, List.map_nil]
        rw [show ((192 + r / 64).toNat) = 192 + r.toNat / 64 by omega, show ((128 + r % 64).toNat) = 128 + r.toNat % 64 by omega]
      · rw [if_neg (by omega)]
        by_cases h4 : r < 65536
        · rw [if_pos (by omega), encodeRune, encodeRuneZ_three (by omega)]
          simp only [List.map_cons, List.map_nil]
          rw [show ((224 + r / 4096).toNat) = 224 + r.toNat / 4096 by omega, show ((128 + r / 64 % 64).toNat) = 128 + r.toNat / 64 % 64 by omega, show ((128 + r % 64).toNat) = 128 + r.toNat % 64 by omega]
        · rw [if_neg (by omega), encodeRune, encodeRuneZ_four (by omega) (by omega)]
          simp only [List.map_cons, List.map_nil]
          rw [show ((240 + r / 262144).toNat) = 240 + r.toNat / 262144 by omega, show ((128 + r / 4096 % 64).toNat) = 128 + r.toNat / 4096 % 64 by omega, show ((128 + r / 64 % 64).toNat) = 128 + r.toNat / 64 % 64 by omega, show ((128 + r % 64).toNat) = 128 + r.toNat % 64 by omega]
theorem runeF_len (r : Int) : (runeF r).length ≤ 4 := by
  unfold runeF
  split
  · simp
  · rw [enc_width r (by omega)]; unfold widthF; repeat' split
    all_goals omega
theorem runeF_enc (r : Int) (h : 0 < widthF r) : (Utf8.encode r).data.toList = runeF r := by rw [runeF, if_neg (by omega)]; exact enc8_rune r h
theorem bytesF_len (l : List Int) : (bytesF l).length ≤ 4 * l.length := by
  induction l with
  | nil => simp [bytesF]
  | cons r t ih =>
    have := runeF_len r
    simp only [bytesF, List.flatMap_cons, List.length_append, List.length_cons] at ih ⊢
    omega
theorem bytesF_step (l : List Int) (k : Nat) (h : k < l.length) : bytesF (l.take (k + 1)) = bytesF (l.take k) ++ runeF l[k] := by
  rw [bytesF, bytesF, List.take_succ_eq_append_getElem h, List.flatMap_append]; simp
theorem Try.info5 : (Try.prog.info? 5).map (fun i => (i.zero, i.size, i.bytes)) = some (some (.int .u8 0), 1, 1) := by kernel_rfl
theorem append_bytes (w : World) {ops : Array Oper} {rest : List Oper} {o : Oper} {a : Act} {Q : Exit → Act → World → Prop} (hgd : o.guard = none) (s x : Operand)
    (ho : o.op = .call { callee := .builtin .append, args := #[s, x], argTypes := #[22, 22] })
    (base : Nat) (v : Value) (n : Nat) (xs : List UInt8) (hs : a.eval s = v) (hown : w.ownsRow base 5 1 v n (bc xs))
    (S : Nat → Prop) (A : Option Addr) (m c : Nat) (ys : List UInt8) (hx : a.eval x = .slice A m c) (hr : Rd w S 1 A m c (bc ys))
    (hlen : n + m ≤ 1000000000) (hbase : base ≤ w.heap.size)
    (h : ∀ A' c' w', w'.ownsRow base 5 1 (.slice A' (n + m) c') (n + m) (bc (xs ++ ys)) → w.grownBy w' v.ownBlock →
      c' ≤ 9223372036854775807 → wpList Try.prog ops Q rest (a.put o.dst (.slice A' (n + m) c')) w') :
    wpList Try.prog ops Q (o :: rest) a w := by
  obtain ⟨i0, hi, hz0, hz1, hz2⟩ := info_parts Try.info5
  refine wpList_append_rd w hgd s x 22 ho base 5 i0 _ 1 1 Try.underlying22 hi hz0 hz1 hz2 rfl (by omega) v n (bc xs) hs hown S A m c (bc ys) hx hr (bc_one ys) (by simp only [maxLen]; omega) (by omega) hbase ?_
  intro v' w' h1 h2 h3
  obtain ⟨A', c', rfl, hr'⟩ := own_form h1
  exact h A' c' w' (by simpa [bc] using h1) h2 hr'.max
theorem append_str (w : World) {ops : Array Oper} {rest : List Oper} {o : Oper} {a : Act} {Q : Exit → Act → World → Prop} (hgd : o.guard = none) (s x : Operand)
    (ho : o.op = .call { callee := .builtin .append, args := #[s, x], argTypes := #[22, 9] })
    (base : Nat) (v : Value) (n : Nat) (xs : List UInt8) (hs : a.eval s = v) (hown : w.ownsRow base 5 1 v n (bc xs))
    (str : ByteArray) (hx : a.eval x = .string str) (hlen : n + str.size ≤ 1000000000) (hbase : base ≤ w.heap.size)
    (h : ∀ A' c' w', w'.ownsRow base 5 1 (.slice A' (n + str.size) c') (n + str.size) (bc (xs ++ str.data.toList)) → w.grownBy w' v.ownBlock →
      c' ≤ 9223372036854775807 → wpList Try.prog ops Q rest (a.put o.dst (.slice A' (n + str.size) c')) w') :
    wpList Try.prog ops Q (o :: rest) a w := by
  obtain ⟨i0, hi, hz0, hz1, hz2⟩ := info_parts Try.info5
  refine wpList_append_own_string w hgd s x 22 9 ho base 5 i0 Try.underlying22 Try.underlying9 hi hz0 hz1 hz2 v n (bc xs) hs hown str hx (by simp only [maxLen]; omega) (by omega) hbase ?_
  intro v' w' h1 h2 h3
  obtain ⟨A', c', rfl, hr'⟩ := own_form h1
  exact h A' c' w' (by simpa [bc, strCells] using h1) h2 hr'.max
theorem bc_own_len {w : World} {base : Nat} {e : TypeId} {v : Value} {n : Nat} {xs : List UInt8} (h : w.ownsRow base e 1 v n (bc xs)) : n = xs.length := by have := h.1; simpa using this.symm
set_option maxHeartbeats 1000000 in
set_option maxRecDepth 100000 in
theorem Bytes_any (S : Nat → Prop) (A : Option Addr) (n c : Nat) (l : List Int) (w : World) (hr : Rd w S 1 A n c (rc l)) (hn9 : l.length ≤ 100000000) :
    Calls Try.prog 38 #[.slice A n c] w fun e w' => ∃ v, e = .returned v ∧ (∃ n', w'.ownsRow w.heap.size 5 1 v n' (bc (bytesF l))) ∧ Below w.heap.size w w' := by
  obtain rfl := hr.rlen
  have hle := hr.le
  have hmx : c ≤ 9223372036854775807 := hr.max
  have HR := Lib.hid hr
  clear hr
  go_enter Try.func38, Try.ntmps38
  go_wp2
  go_loopw [3, 8] (fun v i wr => ∃ (k : Nat), k ≤ l.length ∧ i = .int .i64 k ∧ Hid (∃ n', wr.ownsRow w.heap.size 5 1 v n' (bc (bytesF (l.take k)))) ∧ Hid (Below w.heap.size w wr))
    (fun _ i _ => l.length - (intOf i).toNat)
  case atStart => exact ⟨0, Nat.zero_le _, rfl, ⟨0, World.ownsRow_nil w w.heap.size 5 1⟩, Below.refl _ _⟩
  case round =>
    obtain ⟨k, hk, rfl, HO, HB⟩ := hrel
    obtain ⟨no, HO⟩ := HO.out
    have hno := bc_own_len HO
    have hno2 : no ≤ 400000000 := by have := bytesF_len (l.take k); simp at this; omega
    clear hno
    obtain ⟨Ao, co, rfl, hro⟩ := own_form HO
    have hco2 : co ≤ 9223372036854775807 := hro.max
    have HO := Lib.hid HO
    clear hro
    by_cases hlt : k < l.length
    · obtain ⟨b, u, rfl, hc0⟩ := (HR.out.below HB.out).rune hlt
      have HST := Lib.hid (bytesF_step l k hlt)
      have HW := fun w => Lib.hid (Width_any l[k] w)
      have HE := Lib.hid (runeF_enc l[k])
      have hes := runeF_len l[k]
      have HZ := Lib.hid (fun (h : widthF l[k] = 0) => (by rw [runeF, if_pos h] : runeF l[k] = []))
      generalize l[k] = r at hc0 HST HW HE hes HZ
      by_cases h0 : widthF r = 0
      · have hw0 : ¬ ((widthF r : Nat) : Int) > 0 := by omega
        have HZ2 := Lib.hid (HZ.out h0)
        clear HZ HE h0
        generalize widthF r = wd at HW hw0
        go_wp2_with (go_at_call 54; refine (HW _).out.mono ?_; rintro e w' ⟨rfl, rfl⟩)
        go_roundw
        case rel => exact ⟨k + 1, by omega, by go_num, ⟨_, by rw [HST.out, HZ2.out, List.append_nil]; exact HO.out⟩, HB.out⟩
        case measure => simp [intOf]; omega
      · have hw0 : ((widthF r : Nat) : Int) > 0 := by omega
        have HE2 := Lib.hid (HE.out (by omega))
        have hsz : (Utf8.encode r).size ≤ 4 := by
          have e : (Utf8.encode r).data.toList.length = (Utf8.encode r).size := by simp
          rw [← e, HE2.out]; exact hes
        clear HZ HE h0
        generalize widthF r = wd at HW hw0
        go_wp2_with (first
          | (go_at_call 54; refine (HW _).out.mono ?_; rintro e w' ⟨rfl, rfl⟩)
          | (at_builtin
             refine append_str _ rfl (.tmp 15) (.tmp 17) rfl w.heap.size _ _ _ rfl HO.out (Utf8.encode r) rfl (by omega) HB.out.size ?_
             intro A4 c4 w4 hown4 hg4 _
             have hb4 := below_own HB.out HB.out.size HO.out hg4
             rw [HE2.out] at hown4
             have HB4 := Lib.hid hb4
             have HO4 := Lib.hid hown4
             clear hown4 hg4 hb4))
        go_roundw
        case rel => exact ⟨k + 1, by omega, by go_num, ⟨_, by rw [HST.out]; exact HO4.out⟩, HB4.out⟩
        case measure => simp [intOf]; omega
    · have e : l.take k = l := List.take_of_length_le (by omega)
      rw [e] at HO
      go_wp2
      go_ret
      exact ⟨_, rfl, ⟨_, HO.out⟩, HB.out⟩
end Go.Proofs.Ytblafdmmebiagaa
namespace Go.Proofs.Ytblafdmmebiagaa
open Go.RowKit Go.Lib
end Go.Proofs.Ytblafdmmebiagaa
namespace Go.Proofs.Ytblafdmmebiagaa
open Go.RowKit Go.Lib
def isDig (r : Int) : Bool := (digitF r).2
def isHex (r : Int) : Bool := (hexF r).2
def endedF (l : List Int) (p n : Nat) : Bool := decide (0 < n) && (l[p + n]? == some 59)
def digN (l : List Int) (k : Nat) : Nat := ((l.drop (k + 2)).takeWhile isDig).length
def hexN (l : List Int) (k : Nat) : Nat := ((l.drop (k + 3)).takeWhile isHex).length
def refF (l : List Int) (k : Nat) : Nat × Nat × Bool :=
  if startsF l k [38, 35, 120] && endedF l (k + 3) (hexN l k) then (3, k + 4 + hexN l k, true)
  else if startsF l k [38, 35] && endedF l (k + 2) (digN l k) then (3, k + 3 + digN l k, true)
  else if endedF l (k + 1) (leadF l (k + 1)) then (2, k + 2 + leadF l (k + 1), true)
  else (11, k + 1, false)
theorem lead_shift (l : List Int) (k p : Nat) : leadF l (k + p) = leadF (l.drop k) p := by
  rw [leadF, leadF, List.getElem?_drop, List.drop_drop]
theorem refF_pos (l : List Int) (k : Nat) : k < (refF l k).2.1 := by
  unfold refF
  repeat' split
  all_goals (simp only; omega)
theorem ended_le (l : List Int) (p n : Nat) (h : endedF l p n = true) : p + n < l.length := by
  rw [endedF, Bool.and_eq_true, beq_iff_eq] at h
  exact (List.getElem?_eq_some_iff.1 h.2).1
theorem refF_le (l : List Int) (k : Nat) (hk : k < l.length) : (refF l k).2.1 ≤ l.length := by
  unfold refF
  split
  · rename_i h
    have := ended_le _ _ _ (Bool.and_eq_true_iff.1 h).2
    simp only; omega
  · split
    · rename_i h
      have := ended_le _ _ _ (Bool.and_eq_true_iff.1 h).2
      simp only; omega
    · split
      · rename_i h
        have := ended_le _ _ _ h
        simp only; omega
      · simp only; omega
end Go.Proofs.Ytblafdmmebiagaa
namespace Go.Proofs.Ytblafdmmebiagaa
open Go.RowKit Go.Lib
end Go.Proofs.Ytblafdmmebiagaa
namespace Go.Proofs.Ytblafdmmebiagaa
open Go.RowKit Go.Lib
theorem sb_size : (Try.prog.info? 129).map (·.size) = some 2 := by kernel_rfl
theorem sb_lies : liesAt Try.prog Try.prog.depth 129 (2 / Try.prog.cellsOf 129) 0 129 1 = true := by kernel_rfl
theorem sb_cellsByte : Try.prog.cellsOf 5 = 1 := by kernel_rfl
set_option maxHeartbeats 1000000 in
set_option maxRecDepth 100000 in
theorem CC_used (b : Nat) (w : World) (h0 : w.cell? ⟨b, 0, none⟩ = some (.pointer (some ⟨b, 0, none⟩))) :
    Calls Try.prog 75 #[.pointer (some ⟨b, 0, none⟩)] w fun e w' => e = .returned (.tuple #[]) ∧ w' = w := by
  obtain ⟨j, hj, _⟩ := Option.map_eq_some_iff.1 sb_size
  go_enter Try.func75, Try.ntmps75
  go_wp2
  rw [Lib.run_neq_ptr_same w _ Try.underlying127 hj]
  go_wp2
  go_end0
  exact ⟨rfl, rfl⟩
set_option maxHeartbeats 1000000 in
set_option maxRecDepth 100000 in
theorem CC_fresh (b : Nat) (w : World) (h0 : w.cell? ⟨b, 0, none⟩ = some (.pointer none)) (hsh : w.shape? b = some (129, 2)) (hfz : w.frozen? ⟨b, 0, none⟩ = false) :
    Calls Try.prog 75 #[.pointer (some ⟨b, 0, none⟩)] w fun e w' => e = .returned (.tuple #[]) ∧ w' = w.setCell ⟨b, 0, none⟩ (.pointer (some ⟨b, 0, none⟩)) := by
  obtain ⟨j, hj, hjs⟩ := Option.map_eq_some_iff.1 sb_size
  go_enter Try.func75, Try.ntmps75
  go_wp2
  rw [Lib.run_to_unsafe w ⟨b, 0, none⟩ Try.underlying127 Try.underlying161 hj (by rw [hjs]; decide) hsh (Nat.zero_lt_succ 1)]
  simp only [Result.andThen]
  rw [Oper.upon_value]
  go_wp2
  rw [run_callFunc_extern Try.func89 (by kernel_rfl) (by kernel_rfl) (by kernel_rfl) (e := Extern.AbiNoEscape.same) (by kernel_rfl)]
  rw [Lib.run_noEscape]
  simp only [Result.andThen]
  rw [Oper.upon_value]
  go_wp2
  rw [Lib.run_from_unsafe w ⟨b, 0, none⟩ Try.underlying161 Try.underlying127 hj hsh sb_lies]
  simp only [Result.andThen]
  rw [Oper.upon_value]
  go_wp2
  go_end0
  exact ⟨rfl, rfl⟩
def Sb (B b : Nat) (xs : List UInt8) (w : World) : Prop := Lib.IsBuilder 129 5 B b (bc xs) w
theorem CC_any (B b : Nat) (xs : List UInt8) (w : World) (h : Sb B b xs w) :
    Calls Try.prog 75 #[.pointer (some ⟨b, 0, none⟩)] w fun e w' => e = .returned (.tuple #[]) ∧ Lib.BuilderAt 129 5 B b (.pointer (some ⟨b, 0, none⟩)) (bc xs) w' ∧ Below B w w' ∧ ∀ k, k ≠ b → w'.heap[k]? = w.heap[k]? := by
  rcases h with h | h
  · refine (CC_fresh b w h.cell0 h.shape h.frozen0).mono ?_
    rintro e w' ⟨rfl, rfl⟩
    exact ⟨rfl, h.used _, (Below.refl B w).setCell (p := ⟨b, 0, none⟩) h.1 _, fun k hk => Below.heap_setCell _ _ _ _ hk⟩
  · refine (CC_used b w h.cell0).mono ?_
    rintro e w' ⟨rfl, rfl⟩
    exact ⟨rfl, h, Below.refl B _, fun _ _ => rfl⟩
set_option maxHeartbeats 2000000 in
set_option maxRecDepth 100000 in
theorem SbWrite_any (S : Nat → Prop) (A : Option Addr) (n c B b : Nat) (xs ys : List UInt8) (w : World) (h : Sb B b xs w) (hr : Rd w S 1 A n c (bc ys)) (hS : ¬ S b) (hlen : xs.length + ys.length ≤ 1000000000) (hBw : B ≤ w.heap.size) :
    Calls Try.prog 62 #[.pointer (some ⟨b, 0, none⟩), .slice A n c] w fun e w' => e = .returned (.tuple #[.int .i64 n, .nilIface]) ∧ Sb B b (xs ++ ys) w' ∧ Below B w w' := by
  have hn : n = ys.length := by have := hr.len; simpa using this.symm
  subst hn
  have HR := Lib.hid hr
  have hcm : c ≤ 9223372036854775807 := hr.max
  have hle := hr.le
  clear hr
  go_enter Try.func62, Try.ntmps62
  go_wp2_with (go_at_call 75; refine (CC_any B b xs w h).mono ?_)
  rintro e w1 ⟨rfl, h1, hb1, hk1⟩
  obtain ⟨hB, v, hbk, hown, hne⟩ := h1
  have c0 : w1.cell? ⟨b, 0, none⟩ = some (.pointer (some ⟨b, 0, none⟩)) := by rw [Lib.cell_of_heap hbk]; rfl
  have c1 : w1.cell? ⟨b, 1, none⟩ = some v := by rw [Lib.cell_of_heap hbk]; rfl
  have HR1 := Lib.hid (HR.out.keep fun k hk _ => hk1 k (fun e => hS (e ▸ hk)))
  have hs1 : B ≤ w1.heap.size := by have := hb1.size; omega
  have hxl : (bc xs).length = xs.length := by simp
  rw [hxl] at hown
  obtain ⟨A0, c2, rfl, hro⟩ := own_form hown
  have hc2m : c2 ≤ 9223372036854775807 := hro.max
  have HO := Lib.hid hown
  clear hown hro hk1 HR h
  go_wp2_with (at_builtin; refine append_bytes _ rfl (.tmp 12) (.tmp 13) rfl B _ _ _ rfl HO.out S _ _ _ ys rfl HR1.out (by omega) hs1 ?_)
  intro A4 c4 w4 hown4 hg4 hc4
  have hlt : b < w1.heap.size := by
    rcases Nat.lt_or_ge b w1.heap.size with h' | h'
    · exact h'
    · simp [Array.getElem?_eq_none h'] at hbk
  have hb2 : w4.heap[b]? = some (.cells #[.pointer (some ⟨b, 0, none⟩), .slice A0 xs.length c2] 129 (0, 0)) := by
    rw [hg4.block b hlt (fun e => hne e.symm)]
    exact hbk
  have d0 : w4.cell? ⟨b, 0, none⟩ = some (.pointer (some ⟨b, 0, none⟩)) := by rw [Lib.cell_of_heap hb2]; rfl
  have d1 : w4.cell? ⟨b, 1, none⟩ = some (.slice A0 xs.length c2) := by rw [Lib.cell_of_heap hb2]; rfl
  have f1 : w4.frozen? ⟨b, 1, none⟩ = false := Lib.frozen_of_heap hb2 1
  have HB4 := Lib.hid (below_own hb1 hs1 HO.out hg4)
  have HO4 := Lib.hid hown4
  clear hown4 hg4
  go_wp2
  go_ret2
  refine ⟨rfl, .inr ?_, HB4.out.setCell (p := ⟨b, 1, none⟩) hB _⟩
  exact Lib.BuilderAt.put hB hb2 (by simpa [bc] using HO4.out) (by decide)
set_option maxHeartbeats 1000000 in
set_option maxRecDepth 100000 in
theorem SbString_any (B b : Nat) (l : List UInt8) (w : World) (h : Sb B b l w) (h0 : l ≠ []) :
    Calls Try.prog 63 #[.pointer (some ⟨b, 0, none⟩)] w fun e w' => e = .returned (.string ⟨l.toArray⟩) ∧ Below B w w' := by
  obtain ⟨p, hB, v, hbk, hown, hne⟩ : ∃ p, Lib.BuilderAt 129 5 B b p (bc l) w := by
    rcases h with h | h
    · exact ⟨_, h⟩
    · exact ⟨_, h⟩
  have hl0 : l.length ≠ 0 := by simpa using h0
  have hxl : (bc l).length = l.length := by simp
  rw [hxl] at hown
  obtain ⟨g, cap, cur, rfl, hbg, hg, hnc, hcm, hcs, htake⟩ : ∃ g cap cur, v = .slice (some ⟨g, 0, none⟩) l.length cap ∧ B ≤ g ∧ w.heap[g]? = some (.cells cur 5 (0, 0)) ∧ l.length ≤ cap ∧ cap ≤ maxLen ∧ cur.size = cap * 1 ∧ cur.toList.take (l.length * 1) = bc l := by
    rcases hown.2 with ⟨_, hz⟩ | ⟨g, cap, cur, hv, r⟩
    · exact absurd hz hl0
    · exact ⟨g, cap, cur, hv, r⟩
  have c1 : w.drew.cell? ⟨b, 1, none⟩ = some (.slice (some ⟨g, 0, none⟩) l.length cap) := by
    have : w.drew.heap[b]? = some (.cells #[p, .slice (some ⟨g, 0, none⟩) l.length cap] 129 (0, 0)) := hbk
    rw [Lib.cell_of_heap this]; rfl
  have hSD : (Builtin.unsafeSliceData_ #[22] 147 #[.slice (some ⟨g, 0, none⟩) l.length cap]).run Try.prog w.drew = .ok (.pointer (some ⟨g, 0, none⟩)) w.drew :=
    Lib.run_unsafeSliceData_row _ _ _ _ _ _ (by omega)
  have hUS : (Builtin.unsafeString_ #[147, 3] 9 #[.pointer (some ⟨g, 0, none⟩), .int .i64 l.length]).run Try.prog w.drew = .ok (.string ⟨l.toArray⟩) (w.drew.freeze ⟨g, 0, none⟩ l.length) := by
    refine Lib.run_unsafeString_row w.drew 147 3 9 5 Try.underlying147 sb_cellsByte g cur.size (by have hg' : w.drew.heap[g]? = some (.cells cur 5 (0, 0)) := hg; simp [World.shape?, hg']) l h0 (by omega) (by unfold maxLen at hcm; omega) ?_
    intro j x hx
    have := hown.cells (g := g) rfl j (.int .u8 x.toNat) (by simp [bc, hx])
    exact this
  go_enter Try.func63, Try.ntmps63
  go_wp2
  go_region
  all_goals (go_wp2; go_ret; exact ⟨rfl, Lib.below_freeze (Below.drew (Below.refl B w)) (p := ⟨g, 0, none⟩) hbg _⟩)
end Go.Proofs.Ytblafdmmebiagaa
