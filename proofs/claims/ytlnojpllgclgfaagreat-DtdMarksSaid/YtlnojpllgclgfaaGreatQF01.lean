/- Parts of the proof; conditions as told. -/
import Derived.Test.YtlnojpllgclgfaaGreatChecked
import Derived.KernelRfl
import Derived.WalkKit
import Derived.WalkSpells
import Derived.WalkLawsBesides
import Derived.Lib.Hide
import Derived.Deep.LoopGhost
import Derived.Deep.Draws
import Derived.Deep.AppendLies
import Derived.Maps.AppendAt
import Derived.Deep.QuietTactic
import Derived.BigQuiet
import Derived.Handy
import Derived.Shelf.Abstract
import Derived.Lib.MapLaws
import Derived.Laws.Cover4
import Derived.OpenShut
import Derived.Laws.BytesString
import Derived.Deep.RegionWith
import Derived.OrdersHeld
import Derived.Deep.RegionHeld3
set_option linter.unusedSimpArgs false
set_option linter.unusedVariables false
namespace Go.Proofs.YtlnojpllgclgfaaGreat
open Go.RowKit
structure Rd (w : World) (S : Nat → Prop) (size : Nat) (A : Option Addr) (n c : Nat) (xs : List Value) : Prop where
  len : xs.length = n * size
  le : n ≤ c
  max : c ≤ maxLen
  nil : A = none → c = 0
  at_ : 0 < n → ∃ b o, A = some ⟨b, o, none⟩ ∧ S b ∧ ∀ j u, xs[j]? = some u → w.cell? ⟨b, o + j, none⟩ = some u
section
variable {w w' : World} {S T : Nat → Prop} {size n c : Nat} {A : Option Addr} {xs : List Value}
theorem Rd.none_ : Rd w S size none 0 0 [] := ⟨by simp, Nat.le_refl _, Nat.zero_le _, fun _ => rfl, fun h => absurd h (by omega)⟩
theorem Rd.one {k : Nat} (h : Rd w S 1 A n c xs) (hk : k < n) : ∃ b o u, A = some ⟨b, o, none⟩ ∧ S b ∧ xs[k]? = some u ∧ w.cell? ⟨b, o + k, none⟩ = some u := by
  obtain ⟨b, o, e, hb, hc⟩ := h.at_ (by omega)
  have hl : k < xs.length := by have := h.len; omega
  exact ⟨b, o, xs[k], e, hb, List.getElem?_eq_getElem hl, hc k _ (List.getElem?_eq_getElem hl)⟩
theorem Rd.keep (h : Rd w S size A n c xs) (hk : ∀ b, S b → b < w.heap.size → w'.heap[b]? = w.heap[b]?) : Rd w' S size A n c xs :=
  ⟨h.len, h.le, h.max, h.nil, fun hn => by
    obtain ⟨b, o, e, hb, hc⟩ := h.at_ hn
    refine ⟨b, o, e, hb, fun j u hu => ?_⟩
    have h0 := hc j u hu
    have hlt := World.block_lt_of_cell? w _ h0
    exact (World.cell?_of_block (w := w) (hk _ hb hlt)).trans h0⟩
theorem Rd.more (h : Rd w S size A n c xs) (hS : ∀ b, S b → T b) : Rd w T size A n c xs :=
  ⟨h.len, h.le, h.max, h.nil, fun hn => by
    obtain ⟨b, o, e, hb, hc⟩ := h.at_ hn
    exact ⟨b, o, e, hS _ hb, hc⟩⟩
theorem Rd.below (h : Rd w S size A n c xs) (hb : Below w.heap.size w w') : Rd w' S size A n c xs := h.keep fun b _ hlt => hb.block b hlt
theorem Rd.alloc (h : Rd w S size A n c xs) (o : Obj) : Rd (w.alloc o) S size A n c xs := h.keep fun b _ hlt => Below.heap_alloc w o b hlt
theorem Rd.drew (h : Rd w S size A n c xs) : Rd w.drew S size A n c xs := h.keep fun _ _ _ => rfl
theorem Rd.drewN (h : Rd w S size A n c xs) (k : Nat) : Rd (w.drewN k) S size A n c xs := h.keep fun _ _ _ => rfl
theorem Rd.setCell (h : Rd w S size A n c xs) {p : Addr} (hp : ¬ S p.block) (u : Value) : Rd (w.setCell p u) S size A n c xs :=
  h.keep fun b hs _ => Below.heap_setCell w p u b (fun e => hp (e ▸ hs))
theorem Rd.grown {row : Option Nat} (h : Rd w S size A n c xs) (hg : w.grownBy w' row) (hr : ∀ g, row = some g → ¬ S g) : Rd w' S size A n c xs :=
  h.keep fun b hs hlt => hg.block b hlt (fun e => hr b e.symm hs)
theorem Rd.cut (h : Rd w S size A n c xs) {k : Nat} (hk : k ≤ n) :
    Rd w S size (if c = k then A else A.map (·.add (k * size))) (n - k) (c - k) (xs.drop (k * size)) := by
  refine ⟨by rw [List.length_drop, h.len, Nat.sub_mul], by have := h.le; omega, by have := h.max; omega, fun hA => ?_, fun hn => ?_⟩
  · by_cases e : c = k
    · omega
    · rw [if_neg e] at hA
      have : A = none := by cases A <;> simp_all
      have := h.nil this
      omega
  · obtain ⟨b, o, rfl, hb, hcell⟩ := h.at_ (by omega)
    have := h.le
    rw [if_neg (by omega)]
    refine ⟨b, o + k * size, by simp [Addr.add_lit], hb, fun j u hu => ?_⟩
    rw [Nat.add_assoc]
    exact hcell _ u (by rw [← hu, List.getElem?_drop])
theorem Rd.take (h : Rd w S size A n c xs) {k : Nat} (hk : k ≤ n) : Rd w S size A k c (xs.take (k * size)) := by
  refine ⟨?_, by have := h.le; omega, h.max, h.nil, fun hn => ?_⟩
  · rw [List.length_take, h.len]
    exact Nat.min_eq_left (Nat.mul_le_mul_right _ hk)
  · obtain ⟨b, o, rfl, hb, hcell⟩ := h.at_ (by omega)
    refine ⟨b, o, rfl, hb, fun j u hu => hcell j u ?_⟩
    rw [List.getElem?_take] at hu
    split at hu
    · exact hu
    · cases hu
theorem Rd.of_own {base : Nat} {e : TypeId} (h : w.ownsRow base e size (.slice A n c) n xs) : Rd w (fun b => base ≤ b) size A n c xs := by
  obtain ⟨hl, h2⟩ := h
  rcases h2 with ⟨h2, h3⟩ | ⟨g, cap, cur, hv, hb, hh, hn, hm, hs, ht⟩
  · injection h2 with h4 h5 h6
    subst h4 h5 h6
    exact ⟨hl, Nat.le_refl _, Nat.zero_le _, fun _ => rfl, fun h => absurd h (by omega)⟩
  · injection hv with h4 h5 h6
    subst h4 h6
    refine ⟨hl, hn, hm, (fun h => by cases h), fun h0 => ⟨_, _, rfl, hb, ?_⟩⟩
    intro j u hu
    have hown : w.ownsRow base e size (.slice (some ⟨g, 0, none⟩) n c) n xs := ⟨hl, .inr ⟨g, c, cur, rfl, hb, hh, hn, hm, hs, ht⟩⟩
    have := hown.cells rfl j u hu
    rw [Addr.add_lit] at this
    exact this
end
theorem Rd.cutL {P : Program} {t : TypeId} {w : World} {S : Nat → Prop} {size n c : Nat} {A : Option Addr} {xs : List Value} (h : Rd w S size A n c xs)
    (ht : P.underlying t = some (.slice (P.elem t))) (hz : ∀ w, (sizeOf (P.elem t)).run P w = .ok size w) {k : Nat} (hk : k ≤ n) :
    ∃ A', Rd w S size A' (n - k) (c - k) (xs.drop (k * size)) ∧ ∀ W, (Instr.slice t (.slice A n c) (some (.int .i64 k)) none none).run P W = .ok (.slice A' (n - k) (c - k)) W := by
  refine ⟨_, h.cut hk, fun W => ?_⟩
  rw [run_slice_l W t A n c ht .i64 k (by omega) (by omega), hz]
  rfl
theorem Rd.cutH {P : Program} {t : TypeId} {w : World} {S : Nat → Prop} {size n c : Nat} {A : Option Addr} {xs : List Value} (h : Rd w S size A n c xs)
    (ht : P.underlying t = some (.slice (P.elem t))) (hz : ∀ w, (sizeOf (P.elem t)).run P w = .ok size w) {k : Nat} (hk : k ≤ n) :
    ∃ A', Rd w S size A' k c (xs.take (k * size)) ∧ ∀ W, (Instr.slice t (.slice A n c) none (some (.int .i64 k)) none).run P W = .ok (.slice A' k c) W := by
  refine ⟨A, h.take hk, fun W => ?_⟩
  have := h.le
  rw [run_slice_h W t A n c ht .i64 k (by omega) (by omega), hz]
  simp [sliced, Addr.add]
theorem Rd.cutLH {P : Program} {t : TypeId} {w : World} {S : Nat → Prop} {size n c : Nat} {A : Option Addr} {xs : List Value} (h : Rd w S size A n c xs)
    (ht : P.underlying t = some (.slice (P.elem t))) (hz : ∀ w, (sizeOf (P.elem t)).run P w = .ok size w) {j k : Nat} (hj : j ≤ k) (hk : k ≤ n) :
    ∃ A', Rd w S size A' (k - j) (c - j) ((xs.drop (j * size)).take ((k - j) * size)) ∧
      ∀ W, (Instr.slice t (.slice A n c) (some (.int .i64 j)) (some (.int .i64 k)) none).run P W = .ok (.slice A' (k - j) (c - j)) W := by
  refine ⟨_, (h.cut (k := j) (by omega)).take (k := k - j) (by omega), fun W => ?_⟩
  have := h.le
  rw [run_slice_lh W t A n c ht .i64 .i64 j k (by omega) (by omega) (by omega), hz]
  rfl
theorem Rd.lit (w : World) (t : TypeId) (cs : Array Value) (size n : Nat) (hs : cs.size = n * size) (hm : n ≤ maxLen) :
    Rd (w.alloc (.cells cs t)) (fun b => w.heap.size ≤ b) size (some ⟨w.heap.size, 0, none⟩) n n cs.toList :=
  ⟨by simpa using hs, Nat.le_refl _, hm, fun h => (by cases h), fun _ => ⟨_, _, rfl, Nat.le_refl _, fun j u hu => by
    rw [World.cell?_alloc_at _ _ _ _ rfl, Nat.zero_add]; simpa using hu⟩⟩
theorem own_form {w : World} {base : Nat} {e : TypeId} {size n : Nat} {v : Value} {xs : List Value} (h : w.ownsRow base e size v n xs) :
    ∃ A c, v = .slice A n c ∧ Rd w (fun b => base ≤ b) size A n c xs := by
  have h' := h
  rcases h.2 with ⟨rfl, rfl⟩ | ⟨g, cap, cur, rfl, _⟩
  · exact ⟨none, 0, rfl, Rd.of_own h'⟩
  · exact ⟨some ⟨g, 0, none⟩, cap, rfl, Rd.of_own h'⟩
def PredOk (P : Program) (g : Nat) (caps : Array Value) (p : Int → Bool) (w : World) : Prop :=
  ∀ (W : World) (r : Int), Below w.heap.size w W → Calls P g (#[.int .i32 r] ++ caps) W fun e W' => e = .returned (.bool (p r)) ∧ Below W.heap.size W W'
theorem ret_bool {a b : Bool} (h : a = b) : Ending.returned (.bool a) = .returned (.bool b) := by rw [h]
theorem ret_int {k : IntKind} {a b : Int} (h : a = b) : Ending.returned (.int k a) = .returned (.int k b) := by rw [h]
theorem ret_ib {k : IntKind} {a : Int} {b : Bool} {x : Int × Bool} (h : x = (a, b)) : Ending.returned (.tuple #[.int k a, .bool b]) = .returned (.tuple #[.int k x.1, .bool x.2]) := by rw [h]
theorem below_drewN {B : Nat} {a w : World} (h : Below B a w) (n : Nat) : Below B a (w.drewN n) := ⟨h.os, h.tape, h.output, h.size, h.block⟩
theorem below_all {w w1 w2 : World} (h : Below w.heap.size w w1) (h2 : Below w1.heap.size w1 w2) : Below w.heap.size w w2 := h.trans (h2.mono h.size)
abbrev rc (l : List Int) : List Value := l.map (Value.int .i32)
theorem rc_get {l : List Int} {k : Nat} {u : Value} (h : (rc l)[k]? = some u) : ∃ h : k < l.length, u = .int .i32 l[k] := by
  simp only [rc, List.getElem?_map, Option.map_eq_some_iff] at h
  obtain ⟨a, ha, rfl⟩ := h
  obtain ⟨hk, rfl⟩ := List.getElem?_eq_some_iff.1 ha
  exact ⟨hk, rfl⟩
end Go.Proofs.YtlnojpllgclgfaaGreat
namespace Go.Proofs.YtlnojpllgclgfaaGreat
open Go.RowKit Go.Lib
def widthF (r : Int) : Nat := if r < 0 ∨ 1114111 < r ∨ (55296 ≤ r ∧ r ≤ 57343) then 0 else if r < 128 then 1 else if r < 2048 then 2 else if r < 65536 then 3 else 4
def firstF (l : List UInt8) : Int × Nat := if (decodeL l).1 = 65533 ∧ (decodeL l).2 = 1 then (-1, 1) else (((decodeL l).1 : Int), (decodeL l).2)
def itemsGo : Nat → Nat → List UInt8 → List (Int × Nat × Nat)
  | 0, _, _ => []
  | _ + 1, _, [] => []
  | k + 1, off, b :: t => ((firstF (b :: t)).1, off, (firstF (b :: t)).2) :: itemsGo k (off + (firstF (b :: t)).2) ((b :: t).drop (firstF (b :: t)).2)
def itemsF (l : List UInt8) : List (Int × Nat × Nat) := itemsGo l.length 0 l
def runesF (l : List UInt8) : List Int := (itemsF l).map (·.1)
theorem getD_enc (x : Int) (h : 0 ≤ x ∧ x < 256) : (x.toNat.toUInt8).toNat = x.toNat := by
  show (UInt8.ofNat x.toNat).toNat = _
  rw [UInt8.toNat_ofNat']; omega
theorem enc_width (v : Int) (h : 0 < widthF v) : (encodeRune v).length = widthF v := by
  unfold widthF at h ⊢
  split at h
  · omega
  · rename_i h1
    rw [if_neg h1]
    unfold encodeRune
    rw [List.length_map]
    split
    · rw [encodeRuneZ_one (by omega) (by omega)]; rfl
    · split
      · rw [encodeRuneZ_two (by omega) (by omega)]; rfl
      · split
        · rw [encodeRuneZ_three (by omega)]; rfl
        · rw [encodeRuneZ_four (by omega) (by omega)]; rfl
theorem decode_encode (v : Int) (h : 0 < widthF v) (t : List UInt8) : decodeL (encodeRune v ++ t) = (v.toNat, widthF v) := by
  rw [decodeL_N]
  have hl := enc_width v h
  unfold widthF at h hl ⊢
  split at h
  · omega
  · rename_i h1
    rw [if_neg h1] at hl ⊢
    unfold encodeRune at hl ⊢
    by_cases h2 : v < 128
    · rw [encodeRuneZ_one (by omega) (by omega), if_pos h2]
      simp only [List.map_cons, List.map_nil, List.cons_append, List.nil_append, List.getD_cons_zero]
      rw [getD_enc v (by omega), decodeN, if_pos (by omega)]
    · rw [if_neg h2] at hl ⊢
      by_cases h3 : v < 2048
      · rw [encodeRuneZ_two (by omega) (by omega), if_pos h3]
        simp only [List.map_cons, List.map_nil, List.cons_append, List.nil_append, List.getD_cons_zero, List.getD_cons_succ, List.length_cons]
        rw [getD_enc _ (by omega), getD_enc _ (by omega), decodeN, if_neg (by omega), if_pos (by omega), if_pos (by omega)]
        simp only [Prod.mk.injEq, and_true]
        omega
      · rw [if_neg h3] at hl ⊢
        by_cases h4 : v < 65536
        · rw [encodeRuneZ_three (by omega), if_pos h4]
          simp only [List.map_cons, List.map_nil, List.cons_append, List.nil_append, List.getD_cons_zero, List.getD_cons_succ, List.length_cons]
          rw [getD_enc _ (by omega), getD_enc _ (by omega), getD_enc _ (by omega), decodeN, if_neg (by omega), if_neg (by omega), if_pos (by omega), if_pos (by omega)]
          simp only [Prod.mk.injEq, and_true]
          omega
        · rw [encodeRuneZ_four (by omega) (by omega), if_neg h4]
          simp only [List.map_cons, List.map_nil, List.cons_append, List.nil_append, List.getD_cons_zero, List.getD_cons_succ, List.length_cons]
          rw [getD_enc _ (by omega), getD_enc _ (by omega), getD_enc _ (by omega), getD_enc _ (by omega), decodeN, if_neg (by omega), if_neg (by omega), if_neg (by omega), if_pos (by omega), if_pos (by omega)]
          simp only [Prod.mk.injEq, and_true]
          omega
theorem firstF_enc (v : Int) (h : 0 < widthF v) (t : List UInt8) : firstF (encodeRune v ++ t) = (v, widthF v) := by
  have hd := decode_encode v h t
  have hv : 0 ≤ v := by unfold widthF at h; split at h <;> omega
  rw [firstF, hd]
  simp only
  rw [if_neg]
  · rw [Int.toNat_of_nonneg hv]
  · rintro ⟨h1, h2⟩
    have : v = 65533 := by omega
    subst this
    revert h2
    decide
theorem firstF_pos (l : List UInt8) : 1 ≤ (firstF l).2 := by
  unfold firstF; split
  · exact Nat.le_refl _
  · exact decodeL_width l
theorem firstF_le (l : List UInt8) (h : l ≠ []) : (firstF l).2 ≤ l.length := by
  unfold firstF; split
  · exact List.length_pos_iff.2 h
  · exact decodeL_le l h
theorem firstF_range (l : List UInt8) : -1 ≤ (firstF l).1 ∧ (firstF l).1 ≤ 1114111 := by
  unfold firstF; split
  · exact ⟨by simp, by simp⟩
  · have := decodeL_rune l; refine ⟨?_, ?_⟩ <;> dsimp only <;> omega
theorem firstF_bad (l : List UInt8) (h : (firstF l).1 = -1) (v : Int) (hv : 0 < widthF v) : ¬ ∃ t, l = encodeRune v ++ t := by
  rintro ⟨t, rfl⟩
  rw [firstF_enc v hv] at h
  simp only at h
  subst h
  exact absurd hv (by decide)
theorem firstF_good (l : List UInt8) (hne : l ≠ []) (h : (firstF l).1 ≠ -1) : l.take (firstF l).2 = encodeRune (firstF l).1 := by
  have h' : ¬ ((decodeL l).1 = 65533 ∧ (decodeL l).2 = 1) := fun hh => h (by rw [firstF, if_pos hh])
  have := encode_decode l hne h'
  rw [firstF, if_neg h']
  exact this.symm
theorem itemsGo_nil (k off : Nat) : itemsGo k off [] = [] := by cases k <;> rfl
theorem itemsGo_more (k : Nat) : ∀ (j off : Nat) (l : List UInt8), l.length ≤ k → l.length ≤ j → itemsGo k off l = itemsGo j off l := by
  induction k with
  | zero => intro j off l h1 h2; have : l = [] := List.eq_nil_of_length_eq_zero (by omega); subst this; rw [itemsGo_nil, itemsGo_nil]
  | succ k ih =>
    intro j off l h1 h2
    cases l with
    | nil => rw [itemsGo_nil, itemsGo_nil]
    | cons b t =>
      cases j with
      | zero => simp at h2
      | succ j =>
        simp only [itemsGo]
        have hp := firstF_pos (b :: t)
        rw [ih j _ _ (by rw [List.length_drop]; simp only [List.length_cons] at h1 ⊢; omega) (by rw [List.length_drop]; simp only [List.length_cons] at h2 ⊢; omega)]
theorem itemsGo_step (off : Nat) (l : List UInt8) (h : l ≠ []) : itemsGo l.length off l = ((firstF l).1, off, (firstF l).2) :: itemsGo (l.drop (firstF l).2).length (off + (firstF l).2) (l.drop (firstF l).2) := by
  cases l with
  | nil => exact absurd rfl h
  | cons b t =>
    have hp := firstF_pos (b :: t)
    show itemsGo (t.length + 1) off (b :: t) = _
    simp only [itemsGo]
    rw [itemsGo_more t.length _ _ _ (by rw [List.length_drop]; simp only [List.length_cons]; omega) (Nat.le_refl _)]
end Go.Proofs.YtlnojpllgclgfaaGreat
namespace Go.Proofs.YtlnojpllgclgfaaGreat
open Go.RowKit
section
variable {P : Program} (w : World)
theorem run_append_of_nil (base : Nat) (t ty e : TypeId) (i : TypeInfo) (size : Nat) (ht : P.underlying t = some (.slice e)) (hi : P.info? e = some i)
    (v : Value) (n : Nat) (xs : List Value) (hown : w.ownsRow base e size v n xs) (c : Nat) : (Builtin.append_ #[t, t] ty #[v, .slice none 0 c]).run P w = .ok v w := by
  rcases hown.2 with ⟨rfl, rfl⟩ | ⟨g, cap, cur, rfl, _, _, hnc, _⟩
  · simp [Builtin.append_, run_underlying ht, sizeOf, typeInfo, hi, Builtin.lenOf, Builtin.firstCells]
  · simp [Builtin.append_, run_underlying ht, sizeOf, typeInfo, hi, Builtin.lenOf, Builtin.firstCells, hnc, storeCells]
theorem run_append_rd (base : Nat) (t ty e : TypeId) (i : TypeInfo) (z : Value) (size bytes : Nat) (ht : P.underlying t = some (.slice e)) (hi : P.info? e = some i) (hz : i.zero = some z)
    (hsize : i.size = size) (hby : i.bytes = bytes) (hzs : z.cells.size = size) (hsz : 0 < size)
    (v : Value) (n : Nat) (xs : List Value) (hown : w.ownsRow base e size v n xs)
    (S : Nat → Prop) (A : Option Addr) (m c : Nat) (news : List Value) (hr : Rd w S size A m c news) (h1 : ∀ u ∈ news, u.oneCell' = true)
    (h63 : n + m ≤ maxLen) (hbytes : (n + m) * bytes ≤ 140737488355328) (hbase : base ≤ w.heap.size) :
    ∃ v' w', (Builtin.append_ #[t, t] ty #[v, .slice A m c]).run P w = .ok v' w' ∧ w'.ownsRow base e size v' (n + m) (xs ++ news) ∧ w.grownBy w' v.ownBlock ∧
      (v'.ownBlock = v.ownBlock ∨ v'.ownBlock = some w.heap.size) := by
  rcases A with _ | ad
  · have hm : m = 0 := by have := hr.nil rfl; have := hr.le; omega
    subst hm
    have hn : news = [] := List.eq_nil_of_length_eq_zero (by simpa using hr.len)
    subst hn
    exact ⟨v, w, run_append_of_nil w base t ty e i size ht hi v n xs hown c, by simpa using hown, World.grownBy.refl w _, .inl rfl⟩
  · have hcells : ∀ j u, news[j]? = some u → w.cell? (ad.add j) = some u := by
      intro j u hu
      rcases Nat.eq_zero_or_pos m with h0 | h0
      · subst h0
        have hn : news = [] := List.eq_nil_of_length_eq_zero (by simpa using hr.len)
        subst hn
        simp at hu
      · obtain ⟨b, o, h, _, hc⟩ := hr.at_ h0
        injection h with h
        subst h
        rw [Addr.add_lit]
        exact hc j u hu
    obtain ⟨v', w', hrun, h2, h3, _, h5⟩ := run_append_own_at (P := P) w base t ty e i z size bytes ht hi hz hsize hby hzs hsz v n xs hown ad m c news hr.len hcells h1 h63 hbytes hbase
    exact ⟨v', w', hrun, h2, h3, h5⟩
theorem wpList_append_rd {ops : Array Oper} {rest : List Oper} {o : Oper} {a : Act} {Q : Exit → Act → World → Prop} (hgd : o.guard = none) (s x : Operand) (t : TypeId)
    (ho : o.op = .call { callee := .builtin .append, args := #[s, x], argTypes := #[t, t] })
    (base : Nat) (e : TypeId) (i : TypeInfo) (z : Value) (size bytes : Nat) (ht : P.underlying t = some (.slice e)) (hi : P.info? e = some i) (hz : i.zero = some z)
    (hsize : i.size = size) (hby : i.bytes = bytes) (hzs : z.cells.size = size) (hsz : 0 < size)
    (v : Value) (n : Nat) (xs : List Value) (hs : a.eval s = v) (hown : w.ownsRow base e size v n xs)
    (S : Nat → Prop) (A : Option Addr) (m c : Nat) (news : List Value) (hx : a.eval x = .slice A m c) (hr : Rd w S size A m c news) (h1 : ∀ u ∈ news, u.oneCell' = true)
    (h63 : n + m ≤ maxLen) (hbytes : (n + m) * bytes ≤ 140737488355328) (hbase : base ≤ w.heap.size)
    (h : ∀ v' w', w'.ownsRow base e size v' (n + m) (xs ++ news) → w.grownBy w' v.ownBlock → (v'.ownBlock = v.ownBlock ∨ v'.ownBlock = some w.heap.size) → wpList P ops Q rest (a.put o.dst v') w') : wpList P ops Q (o :: rest) a w := by
  refine wpList_plain hgd fun K hK => ?_
  obtain ⟨v', w', hrun, h2, h3, h4⟩ := run_append_rd (P := P) w base t o.type e i z size bytes ht hi hz hsize hby hzs hsz v n xs hown S A m c news hr h1 h63 hbytes hbase
  unfold Oper.wp execOp
  simp only [ho, resolve, invoke, builtin, Sem.run_bind, Sem.run_pure, Result.andThen_ok, List.map_toArray, List.map_cons, List.map_nil, hs, hx, hrun]
  exact hK _ _ (h v' w' h2 h3 h4)
end
theorem rc_one (l : List Int) : ∀ u ∈ rc l, u.oneCell' = true := ints_oneCell .i32 l
theorem Tryz.info21 : (Tryz.prog.info? 21).map (fun i => (i.zero, i.size, i.bytes)) = some (some (.int .i32 0), 1, 4) := by kernel_rfl
theorem append_runes (w : World) {ops : Array Oper} {rest : List Oper} {o : Oper} {a : Act} {Q : Exit → Act → World → Prop} (hgd : o.guard = none) (s x : Operand)
    (ho : o.op = .call { callee := .builtin .append, args := #[s, x], argTypes := #[22, 22] })
    (base : Nat) (v : Value) (n : Nat) (xs : List Int) (hs : a.eval s = v) (hown : w.ownsRow base 21 1 v n (rc xs))
    (S : Nat → Prop) (A : Option Addr) (m c : Nat) (ys : List Int) (hx : a.eval x = .slice A m c) (hr : Rd w S 1 A m c (rc ys))
    (hlen : n + m ≤ 1000000000) (hbase : base ≤ w.heap.size)
    (h : ∀ A' c' w', w'.ownsRow base 21 1 (.slice A' (n + m) c') (n + m) (rc (xs ++ ys)) → w.grownBy w' v.ownBlock → ((Value.slice A' (n + m) c').ownBlock = v.ownBlock ∨ (Value.slice A' (n + m) c').ownBlock = some w.heap.size) →
      c' ≤ 9223372036854775807 → wpList Tryz.prog ops Q rest (a.put o.dst (.slice A' (n + m) c')) w') :
    wpList Tryz.prog ops Q (o :: rest) a w := by
  obtain ⟨i0, hi, hz0, hz1, hz2⟩ := info_parts Tryz.info21
  refine wpList_append_rd w hgd s x 22 ho base 21 i0 _ 1 4 Tryz.underlying22 hi hz0 hz1 hz2 rfl (by omega) v n (rc xs) hs hown S A m c (rc ys) hx hr (rc_one ys) (by simp only [maxLen]; omega) (by omega) hbase ?_
  intro v' w' h1 h2 h3
  obtain ⟨A', c', rfl, hr'⟩ := own_form h1
  exact h A' c' w' (by simpa [rc] using h1) h2 h3 hr'.max
theorem rc_own_len {w : World} {base : Nat} {e : TypeId} {v : Value} {n : Nat} {xs : List Int} (h : w.ownsRow base e 1 v n (rc xs)) : n = xs.length := by have := h.1; simpa using this.symm
theorem own_base {w : World} {base base' : Nat} {e : TypeId} {size n : Nat} {v : Value} {xs : List Value} (h : w.ownsRow base e size v n xs) (hb : base' ≤ base) : w.ownsRow base' e size v n xs := by
  obtain ⟨h1, h2⟩ := h
  refine ⟨h1, ?_⟩
  rcases h2 with h2 | ⟨g, cap, cur, hv, hg, r⟩
  · exact .inl h2
  · exact .inr ⟨g, cap, cur, hv, Nat.le_trans hb hg, r⟩
theorem own_below {w w' : World} {base : Nat} {e : TypeId} {size n : Nat} {v : Value} {xs : List Value} (h : w.ownsRow base e size v n xs) (hb : Below w.heap.size w w') : w'.ownsRow base e size v n xs :=
  h.kept (row := none) ⟨hb.os, hb.tape, hb.output, hb.size, fun k hk _ => hb.block k hk⟩ (by cases v.ownBlock <;> simp)
theorem below_own {w wr w1 : World} {e : TypeId} {size n : Nat} {v : Value} {xs : List Value} {base : Nat} (hb : Below base w wr) (hle : base ≤ wr.heap.size) (hown : wr.ownsRow base e size v n xs) (hg : wr.grownBy w1 v.ownBlock) : Below base w w1 :=
  hb.grown hg hle (fun k hk => (hown.lt k hk).1)
end Go.Proofs.YtlnojpllgclgfaaGreat
namespace Go.Proofs.YtlnojpllgclgfaaGreat
open Go.RowKit
theorem run_runes_string {P : Program} {w : World} {S : Nat → Prop} {A : Option Addr} {n c : Nat} {l : List Int} (h : Rd w S 1 A n c (rc l)) (src dst e : TypeId)
    (hs : P.underlying src = some (.slice e)) (he : P.underlying e = some (.int .i32)) (hd : P.underlying dst = some .string) :
    (convert src dst (.slice A n c)).run P w = .ok (.string (runesBytes l)) w := by
  have hn : n = l.length := by have := h.len; simpa using this.symm
  subst hn
  rcases A with _ | ad
  · rw [run_convert_runes_nil w src dst e _ _ hs he hd]
    have := h.nil rfl
    have := h.le
    have : l = [] := List.eq_nil_of_length_eq_zero (by omega)
    subst this
    rfl
  · cases hl : l with
    | nil =>
      rw [run_convert_runes_string w src dst e _ _ _ hs he hd, run_runesToString w ad [].length c []]
      rfl
    | cons a t =>
      obtain ⟨b, o, ha, _, hc⟩ := h.at_ (by rw [hl]; simp)
      injection ha with ha
      subst ha
      have := run_convert_runes (P := P) w src dst e ⟨b, o, none⟩ l.length c l (Nat.le_refl _) hs he hd (fun j hj => by
        rw [Addr.add_lit]
        exact hc j _ (by simp [rc, List.getD, hj]))
      rw [List.take_length] at this
      rw [← hl]
      exact this
theorem rd_of_row {k : IntKind} {w : World} {a : Option Addr} {len cap : Nat} {zs : List Int}
    (h : (a = none ∧ len = 0 ∧ cap = 0 ∧ zs = []) ∨ ∃ x, a = some x ∧ len ≤ cap ∧ cap ≤ maxLen ∧ zs.length = cap ∧ (∀ i, i < zs.length → w.cell? (x.add i) = some (.int k (zs.getD i 0))) ∧ ∀ n ∈ zs, (Lit.int k n).wf = true) :
    Rd w (fun b => b < w.heap.size) 1 a len cap ((zs.take len).map (Value.int k)) ∧ ∀ n ∈ zs.take len, (Lit.int k n).wf = true := by
  rcases h with ⟨rfl, rfl, rfl, rfl⟩ | ⟨x, rfl, h1, h2, h3, h4, h5⟩
  · exact ⟨Rd.none_, by simp⟩
  · refine ⟨⟨by simp; omega, h1, h2, (fun h => by cases h), fun h0 => ?_⟩, fun n hn => h5 n (List.mem_of_mem_take hn)⟩
    obtain ⟨b, off, rfl, hc⟩ := ints_at h4 (by omega)
    have hlt : b < w.heap.size := World.block_lt_of_cell? w _ (hc 0 (by omega))
    refine ⟨b, off, rfl, hlt, fun j u hu => ?_⟩
    rw [List.getElem?_map, Option.map_eq_some_iff] at hu
    obtain ⟨z, hz, rfl⟩ := hu
    rw [List.getElem?_take] at hz
    split at hz
    · obtain ⟨hj, rfl⟩ := List.getElem?_eq_some_iff.1 hz
      rw [hc j hj]
      simp [List.getD, hj]
    · cases hz
end Go.Proofs.YtlnojpllgclgfaaGreat
namespace Go.Proofs.YtlnojpllgclgfaaGreat
open Go.RowKit
def enc8 (r : Int) : List UInt8 := (Utf8.encode r).data.toList
theorem enc8_small (r : Int) (h0 : 0 ≤ r) (h1 : r < 128) : enc8 r = [UInt8.ofNat r.toNat] := by
  have hv : Utf8.valid r = true := by simp [Utf8.valid]; omega
  unfold enc8 Utf8.encode
  simp only [hv, if_true]
  rw [if_pos (by omega)]
end Go.Proofs.YtlnojpllgclgfaaGreat
namespace Go.Proofs.YtlnojpllgclgfaaGreat
open Go.RowKit Go.Lib
set_option maxHeartbeats 400000 in
set_option maxRecDepth 100000 in
theorem Width_any (r : Int) (w : World) : Calls Tryz.prog 62 #[.int .i32 r] w fun e w' => e = .returned (.int .i64 (widthF r)) ∧ w = w' := by
  by_cases h1 : r < 0
  · go_enter Tryz.func62, Tryz.ntmps62
    go_wp2
    go_ret
    exact ⟨ret_int (by rw [widthF, if_pos (by omega)]; rfl), rfl⟩
  · by_cases h2 : 1114111 < r
    · go_enter Tryz.func62, Tryz.ntmps62
      go_wp2
      go_ret
      exact ⟨ret_int (by rw [widthF, if_pos (by omega)]; rfl), rfl⟩
    · by_cases h3 : 55296 ≤ r
      · by_cases h4 : r ≤ 57343
        · go_enter Tryz.func62, Tryz.ntmps62
          go_wp2
          go_ret
          exact ⟨ret_int (by rw [widthF, if_pos (by omega)]; rfl), rfl⟩
        · by_cases h5 : r < 65536
          all_goals
            go_enter Tryz.func62, Tryz.ntmps62
            go_wp2
            go_ret
            exact ⟨ret_int (by rw [widthF, if_neg (by omega), if_neg (by omega), if_neg (by omega)]; first | (rw [if_pos (by omega)]; rfl) | (rw [if_neg (by omega)]; rfl)), rfl⟩
      · by_cases h4 : r < 128
        · go_enter Tryz.func62, Tryz.ntmps62
          go_wp2
          go_ret
          exact ⟨ret_int (by rw [widthF, if_neg (by omega), if_pos (by omega)]; rfl), rfl⟩
        · by_cases h5 : r < 2048
          · go_enter Tryz.func62, Tryz.ntmps62
            go_wp2
            go_ret
            exact ⟨ret_int (by rw [widthF, if_neg (by omega), if_neg (by omega), if_pos (by omega)]; rfl), rfl⟩
          · go_enter Tryz.func62, Tryz.ntmps62
            go_wp2
            go_ret
            exact ⟨ret_int (by rw [widthF, if_neg (by omega), if_neg (by omega), if_neg (by omega), if_pos (by omega)]; rfl), rfl⟩
set_option maxHeartbeats 400000 in
set_option maxRecDepth 100000 in
theorem RWidth_any (r : Int) (w : World) : Calls Tryz.prog 85 #[.int .i32 r] w fun e w' => e = .returned (.int .i64 (widthF r)) ∧ w = w' := by
  by_cases h1 : r < 0
  · go_enter Tryz.func85, Tryz.ntmps85
    go_wp2
    go_ret
    exact ⟨ret_int (by rw [widthF, if_pos (by omega)]; rfl), rfl⟩
  · by_cases h2 : 1114111 < r
    · go_enter Tryz.func85, Tryz.ntmps85
      go_wp2
      go_ret
      exact ⟨ret_int (by rw [widthF, if_pos (by omega)]; rfl), rfl⟩
    · by_cases h3 : 55296 ≤ r
      · by_cases h4 : r ≤ 57343
        · go_enter Tryz.func85, Tryz.ntmps85
          go_wp2
          go_ret
          exact ⟨ret_int (by rw [widthF, if_pos (by omega)]; rfl), rfl⟩
        · by_cases h5 : r < 65536
          all_goals
            go_enter Tryz.func85, Tryz.ntmps85
            go_wp2
            go_ret
            exact ⟨ret_int (by rw [widthF, if_neg (by omega), if_neg (by omega), if_neg (by omega)]; first | (rw [if_pos (by omega)]; rfl) | (rw [if_neg (by omega)]; rfl)), rfl⟩
      · by_cases h4 : r < 128
        · go_enter Tryz.func85, Tryz.ntmps85
          go_wp2
          go_ret
          exact ⟨ret_int (by rw [widthF, if_neg (by omega), if_pos (by omega)]; rfl), rfl⟩
        · by_cases h5 : r < 2048
          · go_enter Tryz.func85, Tryz.ntmps85
            go_wp2
            go_ret
            exact ⟨ret_int (by rw [widthF, if_neg (by omega), if_neg (by omega), if_pos (by omega)]; rfl), rfl⟩
          · go_enter Tryz.func85, Tryz.ntmps85
            go_wp2
            go_ret
            exact ⟨ret_int (by rw [widthF, if_neg (by omega), if_neg (by omega), if_neg (by omega), if_pos (by omega)]; rfl), rfl⟩
abbrev bc (l : List UInt8) : List Value := l.map fun b => .int .u8 b.toNat
abbrev itemCells (l : List (Int × Nat × Nat)) : List Value := l.flatMap fun x => [.int .i32 x.1, .int .i64 x.2.1, .int .i64 x.2.2]
theorem Tryz.info132 : (Tryz.prog.info? 132).map (fun i => (i.zero, i.size, i.bytes)) = some (some (.agg #[.int .i32 0, .int .i64 0, .int .i64 0]), 3, 24) := by kernel_rfl
theorem append_items (w : World) {ops : Array Oper} {rest : List Oper} {o : Oper} {a : Act} {Q : Exit → Act → World → Prop} (hgd : o.guard = none) (s x : Operand)
    (ho : o.op = .call { callee := .builtin .append, args := #[s, x], argTypes := #[129, 129] })
    (base : Nat) (v : Value) (n : Nat) (xs : List Value) (hs : a.eval s = v) (hown : w.ownsRow base 132 3 v n xs)
    (S : Nat → Prop) (A : Option Addr) (m c : Nat) (ys : List Value) (hx : a.eval x = .slice A m c) (hr : Rd w S 3 A m c ys) (h1 : ∀ u ∈ ys, u.oneCell' = true)
    (hlen : n + m ≤ 1000000000) (hbase : base ≤ w.heap.size)
    (h : ∀ A' c' w', w'.ownsRow base 132 3 (.slice A' (n + m) c') (n + m) (xs ++ ys) → w.grownBy w' v.ownBlock → ((Value.slice A' (n + m) c').ownBlock = v.ownBlock ∨ (Value.slice A' (n + m) c').ownBlock = some w.heap.size) →
      c' ≤ 9223372036854775807 → wpList Tryz.prog ops Q rest (a.put o.dst (.slice A' (n + m) c')) w') :
    wpList Tryz.prog ops Q (o :: rest) a w := by
  obtain ⟨i0, hi, hz0, hz1, hz2⟩ := info_parts Tryz.info132
  refine wpList_append_rd w hgd s x 129 ho base 132 i0 _ 3 24 Tryz.underlying129 hi hz0 hz1 hz2 rfl (by omega) v n xs hs hown S A m c ys hx hr h1 (by simp only [maxLen]; omega) (by omega) hbase ?_
  intro v' w' h1 h2 h3
  obtain ⟨A', c', rfl, hr'⟩ := own_form h1
  exact h A' c' w' h1 h2 h3 hr'.max
theorem Tryz.info135 : (Tryz.prog.info? 135).map (fun i => (i.zero, i.size, i.bytes)) = some (some (.agg #[.int .i32 0, .int .i64 0, .int .i64 0]), 3, 24) := by kernel_rfl
theorem append_ritems (w : World) {ops : Array Oper} {rest : List Oper} {o : Oper} {a : Act} {Q : Exit → Act → World → Prop} (hgd : o.guard = none) (s x : Operand)
    (ho : o.op = .call { callee := .builtin .append, args := #[s, x], argTypes := #[133, 133] })
    (base : Nat) (v : Value) (n : Nat) (xs : List Value) (hs : a.eval s = v) (hown : w.ownsRow base 135 3 v n xs)
    (S : Nat → Prop) (A : Option Addr) (m c : Nat) (ys : List Value) (hx : a.eval x = .slice A m c) (hr : Rd w S 3 A m c ys) (h1 : ∀ u ∈ ys, u.oneCell' = true)
    (hlen : n + m ≤ 1000000000) (hbase : base ≤ w.heap.size)
    (h : ∀ A' c' w', w'.ownsRow base 135 3 (.slice A' (n + m) c') (n + m) (xs ++ ys) → w.grownBy w' v.ownBlock → ((Value.slice A' (n + m) c').ownBlock = v.ownBlock ∨ (Value.slice A' (n + m) c').ownBlock = some w.heap.size) →
      c' ≤ 9223372036854775807 → wpList Tryz.prog ops Q rest (a.put o.dst (.slice A' (n + m) c')) w') :
    wpList Tryz.prog ops Q (o :: rest) a w := by
  obtain ⟨i0, hi, hz0, hz1, hz2⟩ := info_parts Tryz.info135
  refine wpList_append_rd w hgd s x 133 ho base 135 i0 _ 3 24 Tryz.underlying133 hi hz0 hz1 hz2 rfl (by omega) v n xs hs hown S A m c ys hx hr h1 (by simp only [maxLen]; omega) (by omega) hbase ?_
  intro v' w' h1 h2 h3
  obtain ⟨A', c', rfl, hr'⟩ := own_form h1
  exact h A' c' w' h1 h2 h3 hr'.max
theorem piece_good (s : ByteArray) (at_ : Nat) (hat : at_ < s.size) (h : (Utf8.decode s at_).1 ≠ 65533) : firstF (s.data.toList.drop at_) = (((Utf8.decode s at_).1 : Int), widthF (Utf8.decode s at_).1) := by
  have hne : s.data.toList.drop at_ ≠ [] := by
    intro h0
    have := congrArg List.length h0
    simp at this
    have : s.data.size = s.size := rfl
    omega
  rw [← decodeL_drop] at h ⊢
  have hv := firstF_good (s.data.toList.drop at_) hne
  rw [firstF, if_neg (fun hh => h hh.1)] at hv ⊢
  have h2 := runeLen_decode _ h
  have hw := decodeL_width (s.data.toList.drop at_)
  have hle := decodeL_le _ hne
  refine Prod.ext rfl ?_
  show (decodeL (s.data.toList.drop at_)).2 = _
  generalize (decodeL (s.data.toList.drop at_)).1 = c at h2 ⊢
  generalize (decodeL (s.data.toList.drop at_)).2 = n at h2 hw ⊢
  unfold runeLen at h2
  unfold widthF
  repeat' split at h2
  all_goals (dsimp only; first | omega | ((repeat' split) <;> omega))
theorem piece_repl (s : ByteArray) (at_ : Nat) (hat : at_ < s.size) (h : (Utf8.decode s at_).1 = 65533) :
    firstF (s.data.toList.drop at_) = if (s.data.toList.drop at_).take 3 = [239, 191, 189] then (65533, 3) else (-1, 1) := by
  have hne : s.data.toList.drop at_ ≠ [] := by
    intro h0
    have := congrArg List.length h0
    simp at this
    have : s.data.size = s.size := rfl
    omega
  rw [← decodeL_drop] at h
  generalize s.data.toList.drop at_ = l at h hne ⊢
  split
  · rename_i h3
    have he : encodeRune 65533 = [239, 191, 189] := by decide
    have hl : l = encodeRune 65533 ++ l.drop 3 := by rw [he, ← h3, List.take_append_drop]
    rw [hl, firstF_enc 65533 (by decide)]
    rfl
  · rename_i h3
    by_cases h1 : (decodeL l).2 = 1
    · rw [firstF, if_pos ⟨h, h1⟩]
    · exfalso
      have he := encode_decode l hne (fun hh => h1 hh.2)
      rw [h] at he
      have he2 : encodeRune ((65533 : Nat) : Int) = [239, 191, 189] := by decide
      rw [he2] at he
      have hlen := congrArg List.length he
      have hle := decodeL_le l hne
      rw [List.length_take] at hlen
      have : (decodeL l).2 = 3 := by simp at hlen; omega
      rw [this] at he
      exact h3 he.symm
set_option maxHeartbeats 1000000 in
set_option maxRecDepth 100000 in
theorem piece_any (s : ByteArray) (at_ : Nat) (hat : at_ < s.size) (hs : s.size ≤ 1000000000) (w : World) :
    Calls Tryz.prog 123 #[.string s, .int .i64 at_, .int .i32 (Utf8.decode s at_).1] w fun e w' =>
      e = .returned (.tuple #[.int .i32 (firstF (s.data.toList.drop at_)).1, .int .i64 (firstF (s.data.toList.drop at_)).2]) ∧ w = w' := by
  have hle := decode_le s at_
  by_cases h : (Utf8.decode s at_).1 = 65533
  · have HF := Lib.hid (piece_repl s at_ hat h)
    rw [h]
    by_cases h3 : (s.size : Int) - (at_ : Int) < 3
    · have HN : Hid (firstF (s.data.toList.drop at_) = (-1, 1)) := by
        rw [Hid, HF.out, if_neg]
        intro hh
        have := congrArg List.length hh
        simp at this
        have : s.data.size = s.size := rfl
        omega
      generalize firstF (s.data.toList.drop at_) = p at HN ⊢
      clear h HF
      go_enter Tryz.func123, Tryz.ntmps123
      go_wp2
      go_ret2
      exact ⟨by rw [HN.out]; rfl, rfl⟩
    · have hx : (s.extract at_ (at_ + 3)).toList = (s.data.toList.drop at_).take 3 := by
        rw [ByteArray.toList_eq, extract_data, Nat.add_sub_cancel_left]
      have HW := Lib.hid (Width_any 65533 w)
      have h4 : at_ + 3 ≤ s.size := by omega
      by_cases he : (s.data.toList.drop at_).take 3 = [239, 191, 189]
      · have HN : Hid (firstF (s.data.toList.drop at_) = (65533, 3)) := by rw [Hid, HF.out, if_pos he]
        have hb : ((s.extract at_ (at_ + 3)).toList == [239, 191, 189]) = true := by rw [hx, he]; rfl
        generalize firstF (s.data.toList.drop at_) = p at HN ⊢
        clear h HF hx he
        go_enter Tryz.func123, Tryz.ntmps123
        go_wp2_with fail
        refine HW.out.mono ?_
        rintro e w' ⟨rfl, rfl⟩
        go_wp2
        go_ret2
        exact ⟨by rw [HN.out]; rfl, rfl⟩
      · have HN : Hid (firstF (s.data.toList.drop at_) = (-1, 1)) := by rw [Hid, HF.out, if_neg he]
        have hb : ((s.extract at_ (at_ + 3)).toList == [239, 191, 189]) = false := by rw [hx, beq_eq_false_iff_ne]; exact he
        generalize firstF (s.data.toList.drop at_) = p at HN ⊢
        clear h HF hx he
        go_enter Tryz.func123, Tryz.ntmps123
        go_wp2
        go_ret2
        exact ⟨by rw [HN.out]; rfl, rfl⟩
  · have HN := Lib.hid (piece_good s at_ hat h)
    have hb : (((Utf8.decode s at_).1 : Int) == 65533) = false := by rw [beq_eq_false_iff_ne]; omega
    generalize firstF (s.data.toList.drop at_) = p at HN ⊢
    generalize (Utf8.decode s at_).1 = c at HN hb hle h ⊢
    have HW := Lib.hid (Width_any c w)
    clear h
    go_enter Tryz.func123, Tryz.ntmps123
    go_wp2_with fail
    refine HW.out.mono ?_
    rintro e w' ⟨rfl, rfl⟩
    go_wp2
    go_ret2
    exact ⟨by rw [HN.out]; rfl, rfl⟩
theorem bc_get {l : List UInt8} {k : Nat} {u : Value} (h : (bc l)[k]? = some u) : ∃ h : k < l.length, u = .int .u8 (l[k]).toNat := by
  simp only [bc, List.getElem?_map, Option.map_eq_some_iff] at h
  obtain ⟨a, ha, rfl⟩ := h
  obtain ⟨hk, rfl⟩ := List.getElem?_eq_some_iff.1 ha
  exact ⟨hk, rfl⟩
theorem bc_one (l : List UInt8) : ∀ u ∈ bc l, u.oneCell' = true := by
  intro u hu
  obtain ⟨_, _, rfl⟩ := List.mem_map.1 hu
  rfl
theorem bc_len {w : World} {S : Nat → Prop} {A : Option Addr} {n c : Nat} {l : List UInt8} (h : Rd w S 1 A n c (bc l)) : n = l.length := by have := h.len; simpa using this.symm
theorem run_bytes_string {P : Program} {w : World} {S : Nat → Prop} {A : Option Addr} {n c : Nat} {l : List UInt8} (h : Rd w S 1 A n c (bc l)) (src dst e : TypeId)
    (hs : P.underlying src = some (.slice e)) (he : P.underlying e = some (.int .u8)) (hd : P.underlying dst = some .string) :
    (convert src dst (.slice A n c)).run P w = .ok (.string ⟨l.toArray⟩) w := by
  obtain rfl := bc_len h
  rcases A with _ | ad
  · have := h.nil rfl
    have := h.le
    have : l = [] := List.eq_nil_of_length_eq_zero (by omega)
    subst this
    rw [run_convert_bytes_string w src dst e _ _ _ hs he hd]
    rfl
  · refine run_convert_bytes_back w src dst e ad c l hs he hd fun j hj => ?_
    obtain ⟨b, o, ha, _, hc⟩ := h.at_ (by omega)
    injection ha with ha
    subst ha
    rw [Addr.add_lit]
    exact hc j _ (by simp [bc, hj])
theorem run_string_bytes {P : Program} (w : World) (s : ByteArray) (src dst e : TypeId) (hs : P.underlying src = some .string) (hd : P.underlying dst = some (.slice e)) (he : P.underlying e = some (.int .u8))
    (hlen : s.size ≤ 1000000000) :
    ∃ A c w', (convert src dst (.string s)).run P w = .ok (.slice A s.size c) w' ∧ Rd w' (fun b => w.heap.size ≤ b) 1 A s.size c (bc s.data.toList) ∧ Below w.heap.size w w' ∧ c ≤ 9223372036854775807 := by
  have hge := grownCap_ge w s.size 0 e
  have hmx := grownCap_le_maxLen w s.size 0 e (by unfold maxLen; omega)
  refine ⟨_, _, _, run_bytes_of_string w src dst e s hs hd he, ?_, (Below.refl _ w).drew.alloc (Nat.le_refl _) _, hmx⟩
  have hsz : s.data.toList.length = s.size := by simp
  refine ⟨by simp [bc], hge, hmx, (fun h => by cases h), fun _ => ⟨_, _, rfl, Nat.le_refl _, fun j u hu => ?_⟩⟩
  obtain ⟨hj, rfl⟩ := bc_get hu
  have hj2 : j < s.data.size := by simpa using hj
  rw [Nat.zero_add]
  refine (World.cell?_alloc_mark w.drew (bytesRow s (grownCap w s.size 0 e)) e _ j).trans ?_
  rw [bytesRow, Array.getElem?_append_left (by simpa using hj2)]
  simp only [Array.getElem?_map, Array.getElem?_eq_getElem hj2, Option.map_some, Array.getElem_toList]
theorem itemCells_append (a b : List (Int × Nat × Nat)) : itemCells (a ++ b) = itemCells a ++ itemCells b := by simp [itemCells]
theorem itemCells_one (l : List (Int × Nat × Nat)) : ∀ u ∈ itemCells l, u.oneCell' = true := by
  intro u hu
  simp only [itemCells, List.mem_flatMap, List.mem_cons, List.not_mem_nil, or_false] at hu
  obtain ⟨x, _, rfl | rfl | rfl⟩ := hu <;> rfl
theorem itemCells_len (l : List (Int × Nat × Nat)) : (itemCells l).length = l.length * 3 := by
  induction l with
  | nil => rfl
  | cons a t ih => simp only [itemCells, List.flatMap_cons, List.length_append, List.length_cons, List.length_nil] at ih ⊢; omega
theorem items_len (k : Nat) : ∀ (off : Nat) (l : List UInt8), (itemsGo k off l).length ≤ k := by
  induction k with
  | zero => intro off l; simp [itemsGo]
  | succ k ih =>
    intro off l
    cases l with
    | nil => simp [itemsGo]
    | cons b t => simp only [itemsGo, List.length_cons]; have := ih (off + (firstF (b :: t)).2) ((b :: t).drop (firstF (b :: t)).2); omega
end Go.Proofs.YtlnojpllgclgfaaGreat
namespace Go.Proofs.YtlnojpllgclgfaaGreat
open Go.RowKit Go.Lib
structure IterAt (w wr : World) (s : ByteArray) (pos : Nat) : Prop where
  blk : wr.heap[w.heap.size]? = some (.stringIter s pos)
  below : Below w.heap.size w wr
theorem IterAt.lt {w wr : World} {s : ByteArray} {pos : Nat} (h : IterAt w wr s pos) : w.heap.size < wr.heap.size := (Array.getElem?_eq_some_iff.1 h.blk).1
def World.iterSet (w : World) (b : Nat) (s : ByteArray) (pos : Nat) : World := { w with heap := w.heap.setIfInBounds b (.stringIter s pos) }
theorem run_next_at {P : Program} {w wr : World} {s : ByteArray} {pos : Nat} (h : IterAt w wr s pos) (ty : TypeId) (hp : pos < s.size) :
    (Instr.next (.pointer (some ⟨w.heap.size, 0, none⟩)) true ty).run P wr = .ok (.tuple #[.bool true, .int .i64 pos, .int .i32 (Utf8.decode s pos).1]) (World.iterSet wr w.heap.size s (pos + (Utf8.decode s pos).2)) := by
  simp only [Instr.next, getObj, setObj, Sem.run_bind, Sem.run, h.blk, Result.andThen, hp, if_true]
  simp [goInt, World.iterSet]
theorem run_next_done {P : Program} {w wr : World} {s : ByteArray} {pos : Nat} (h : IterAt w wr s pos) (ty : TypeId) (hp : ¬ pos < s.size) :
    (Instr.next (.pointer (some ⟨w.heap.size, 0, none⟩)) true ty).run P wr = .ok (.tuple #[.bool false]) wr := by
  simp [Instr.next, getObj, Sem.run, h.blk, hp]
theorem IterAt.set {w wr : World} {s : ByteArray} {pos pos' : Nat} (h : IterAt w wr s pos) : IterAt w (World.iterSet wr w.heap.size s pos') s pos' := by
  have hlt := h.lt
  refine ⟨?_, h.below.trans ⟨rfl, rfl, rfl, ?_, fun k hk => ?_⟩⟩
  · show (wr.heap.setIfInBounds w.heap.size _)[w.heap.size]? = _
    rw [Array.getElem?_setIfInBounds_self_of_lt hlt]
  · show wr.heap.size ≤ (wr.heap.setIfInBounds w.heap.size _).size
    simp
  · show (wr.heap.setIfInBounds w.heap.size _)[k]? = _
    rw [Array.getElem?_setIfInBounds_ne (by omega)]
theorem iterSet_grown (w : World) (b : Nat) (s : ByteArray) (pos : Nat) : w.grownBy (World.iterSet w b s pos) (some b) :=
  ⟨rfl, rfl, rfl, by simp [World.iterSet], fun k _ hne => by
    show (w.heap.setIfInBounds b _)[k]? = _
    rw [Array.getElem?_setIfInBounds_ne (fun e => hne (by rw [e]))]⟩
theorem IterAt.grown {w wr w2 : World} {s : ByteArray} {pos : Nat} {row : Option Nat} (h : IterAt w wr s pos) (hg : wr.grownBy w2 row) (hr : ∀ g, row = some g → w.heap.size < g) : IterAt w w2 s pos :=
  ⟨(hg.block w.heap.size h.lt (fun e => by have := hr _ e.symm; omega)).trans h.blk, h.below.grown hg h.below.size (fun k hk => by have := hr k hk; omega)⟩
theorem IterAt.alloc {w wr : World} {s : ByteArray} {pos : Nat} (h : IterAt w wr s pos) (o : Obj) : IterAt w (wr.alloc o) s pos :=
  ⟨(Below.heap_alloc wr o _ h.lt).trans h.blk, h.below.alloc h.below.size o⟩
theorem IterAt.start (w : World) (s : ByteArray) : IterAt w (w.iter s 0) s 0 := ⟨World.iter_heap w s 0, (Below.refl _ w).alloc (Nat.le_refl _) _⟩
theorem dec_width (s : ByteArray) (pos : Nat) : 1 ≤ (Utf8.decode s pos).2 := by rw [← decodeL_drop]; exact decodeL_width _
theorem first_dec (s : ByteArray) (pos : Nat) : (firstF (s.data.toList.drop pos)).2 = (Utf8.decode s pos).2 := by
  rw [firstF, decodeL_drop]
  split
  · rename_i h; exact h.2.symm
  · rfl
set_option maxHeartbeats 1000000 in
set_option maxRecDepth 100000 in
theorem Items_any (S : Nat → Prop) (A : Option Addr) (n c : Nat) (l : List UInt8) (w : World) (hr : Rd w S 1 A n c (bc l)) (hlen : l.length ≤ 300000000) :
    Calls Tryz.prog 105 #[.slice A n c] w fun e w' => ∃ v, e = .returned v ∧ (∃ n', w'.ownsRow w.heap.size 132 3 v n' (itemCells (itemsF l))) ∧ Below w.heap.size w w' := by
  have hcv := run_bytes_string hr 49 9 5 Tryz.underlying49 Tryz.underlying5 Tryz.underlying9
  obtain rfl := bc_len hr
  obtain ⟨s, hs⟩ : ∃ s : ByteArray, s = ⟨l.toArray⟩ := ⟨_, rfl⟩
  rw [← hs] at hcv
  have hsz : s.size = l.length := by rw [hs]; simp [ByteArray.size]
  have hsl : s.data.toList = l := by rw [hs]
  have HS := Lib.hid hs
  have hsb : s.size ≤ 300000000 := by omega
  have HSL := Lib.hid hsl
  have HSZ := Lib.hid hsz
  clear hs hsl hsz hr
  go_enter Tryz.func105, Tryz.ntmps105
  go_wp2
  go_loopw [3] (fun v wr => ∃ (pos : Nat) (o : List (Int × Nat × Nat)), Hid (IterAt w wr s pos) ∧ Hid (itemsF l = o ++ itemsGo (l.drop pos).length pos (l.drop pos)) ∧ o.length ≤ pos ∧
      Hid (∃ n', wr.ownsRow (w.heap.size + 1) 132 3 v n' (itemCells o)) ∧ pos ≤ s.size)
    (fun _ wr => s.size - wr.iterPos w.heap.size)
  case atStart => exact ⟨0, [], IterAt.start w s, by simp [Hid, itemsF], Nat.le_refl _, ⟨0, World.ownsRow_nil _ _ _ _⟩, Nat.zero_le _⟩
  case round =>
    obtain ⟨pos, o, HI, HS2, hol, HO, hpos⟩ := hrel
    obtain ⟨no, HO⟩ := HO.out
    have hno : no = o.length := by have := HO.1; rw [itemCells_len] at this; omega
    obtain ⟨Ao, co, rfl, hro⟩ := own_form HO
    have hco : co ≤ 9223372036854775807 := hro.max
    have HO := Lib.hid HO
    have hnob : no ≤ 300000000 := by omega
    have HNO := Lib.hid hno
    clear hro hno
    by_cases hlt : pos < s.size
    · have hnx : ∀ ty, (Instr.next (.pointer (some ⟨w.heap.size, 0, none⟩)) true ty).run Tryz.prog wr = _ := fun ty => run_next_at HI.out ty hlt
      have HI2 := Lib.hid (HI.out.set (pos' := pos + (Utf8.decode s pos).2))
      have HO2 := Lib.hid (HO.out.kept (iterSet_grown wr w.heap.size s (pos + (Utf8.decode s pos).2)) (by
        cases hb : Value.ownBlock (.slice Ao no co) with
        | none => exact .inl rfl
        | some g => right; have := (HO.out.lt g hb).1; intro h; injection h; omega))
      generalize hW2 : World.iterSet wr w.heap.size s (pos + (Utf8.decode s pos).2) = w2 at hnx HI2 HO2
      have HFD := Lib.hid (first_dec s pos)
      have HP := Lib.hid (piece_any s pos hlt (by omega) w2)
      have hdw := dec_width s pos
      have hfr := firstF_range (s.data.toList.drop pos)
      have HMS : Hid (pos + (Utf8.decode s pos).2 ≤ s.size) := by
        rw [Hid, ← HFD.out]
        have hne : s.data.toList.drop pos ≠ [] := by
          intro h0
          have := congrArg List.length h0
          simp at this
          have : s.data.size = s.size := rfl
          omega
        have := firstF_le _ hne
        rw [List.length_drop] at this
        have : s.data.toList.length = s.size := by simp
        omega
      have HST : Hid (itemsF l = (o ++ [((firstF (s.data.toList.drop pos)).1, pos, (firstF (s.data.toList.drop pos)).2)]) ++ itemsGo (l.drop (pos + (Utf8.decode s pos).2)).length (pos + (Utf8.decode s pos).2) (l.drop (pos + (Utf8.decode s pos).2))) := by
        have hne : l.drop pos ≠ [] := by
          intro h0
          have := congrArg List.length h0
          simp at this
          have := HSZ.out
          omega
        rw [Hid, HS2.out, itemsGo_step pos _ hne, List.drop_drop, HSL.out, ← HSL.out, HFD.out]
        simp
      generalize hd2 : (Utf8.decode s pos).2 = dw at hnx HI2 HFD hdw HMS HST hW2
      generalize firstF (s.data.toList.drop pos) = p at HP HFD HST hfr
      generalize (Utf8.decode s pos).1 = dr at hnx HP
      clear hW2 hd2
      go_wp2_with fail
      refine HP.out.mono ?_
      rintro e w3 ⟨rfl, rfl⟩
      go_wp2_with (first
        | (at_builtin
           refine append_items _ rfl (.tmp 24) (.tmp 29) rfl (w.heap.size + 1) _ _ (itemCells o) rfl (HO2.out.alloc _) _ _ 1 1 (itemCells [(p.1, pos, p.2)]) rfl (Rd.lit w2 _ #[.int .i32 p.1, .int .i64 pos, .int .i64 p.2] 3 1 rfl (by decide)) (itemCells_one _) (by omega) (by have := HI2.out.lt; simp; omega) ?_
           intro A4 c4 w4 hown4 hg4 _ _
           have HI4 := Lib.hid ((HI2.out.alloc (.cells #[.int .i32 p.1, .int .i64 pos, .int .i64 p.2] 132)).grown hg4 (fun g hg => (HO2.out.lt g hg).1))
           have HO4 := Lib.hid hown4
           clear hown4 hg4))
      go_roundw
      case rel =>
        refine ⟨pos + dw, _, HI4.out, HST.out, ?_, ⟨_, by rw [itemCells_append]; exact HO4.out⟩, HMS.out⟩
        simp; omega
      case measure =>
        simp [World.iterPos, HI4.out.blk, HI.out.blk]
        omega
    · have hnx : ∀ ty, (Instr.next (.pointer (some ⟨w.heap.size, 0, none⟩)) true ty).run Tryz.prog wr = _ := fun ty => run_next_done HI.out ty hlt
      have HE : Hid (itemsF l = o) := by
        have : l.drop pos = [] := List.drop_eq_nil_of_le (by have := HSZ.out; omega)
        rw [Hid, HS2.out, this, itemsGo_nil, List.append_nil]
      go_wp2
      go_ret
      exact ⟨_, rfl, ⟨_, by rw [HE.out]; exact own_base HO.out (by omega)⟩, HI.out.below⟩
end Go.Proofs.YtlnojpllgclgfaaGreat
namespace Go.Proofs.YtlnojpllgclgfaaGreat
open Go.RowKit Go.Lib
def BytesV (w : World) (v : Value) (l : List UInt8) : Prop := ∃ A n c, v = .slice A n c ∧ Rd w (fun _ => True) 1 A n c (bc l)
theorem BytesV.of_own {w : World} {base : Nat} {e : TypeId} {v : Value} {n : Nat} {l : List UInt8} (h : w.ownsRow base e 1 v n (bc l)) : BytesV w v l := by
  obtain ⟨A, c, rfl, hr⟩ := own_form h
  exact ⟨A, n, c, rfl, hr.more fun _ _ => trivial⟩
theorem BytesV.of_rd {w : World} {S : Nat → Prop} {A : Option Addr} {n c : Nat} {l : List UInt8} (h : Rd w S 1 A n c (bc l)) : BytesV w (.slice A n c) l := ⟨A, n, c, rfl, h.more fun _ _ => trivial⟩
theorem BytesV.below {w w' : World} {v : Value} {l : List UInt8} (h : BytesV w v l) (hb : Below w.heap.size w w') : BytesV w' v l := by
  obtain ⟨A, n, c, rfl, hr⟩ := h
  exact ⟨A, n, c, rfl, hr.below hb⟩
def runeF (r : Int) : List UInt8 := if widthF r = 0 then [] else encodeRune r
theorem runeF_cells (r : Int) (h : 0 < widthF r) (zs : List Int) (hz : encodeRuneZ r = zs) : bc (runeF r) = zs.map (Value.int .u8) := by
  rw [runeF, if_neg (by omega), encodeRune, hz, bc, List.map_map]
  apply List.map_congr_left
  intro x hx
  have := encodeRuneZ_byte r x (by rw [hz]; exact hx)
  simp only [Function.comp]
  rw [getD_enc x (by omega), Int.toNat_of_nonneg this.1]
theorem bytes_lit (w : World) (t : TypeId) (cs : Array Value) (l : List UInt8) (n : Nat) (hn : cs.size = n) (hm : n ≤ maxLen) (h : bc l = cs.toList) :
    BytesV (w.alloc (.cells cs t)) (.slice (some ⟨w.heap.size, 0, none⟩) n n) l := by
  have hr := Rd.lit w t cs 1 n (by omega) hm
  rw [← h] at hr
  exact ⟨_, _, _, rfl, hr.more fun _ _ => trivial⟩
set_option maxHeartbeats 1000000 in
set_option maxRecDepth 100000 in
theorem Rune_any (r : Int) (w : World) (hlo : -2147483648 ≤ r) (hhi : r ≤ 2147483647) : Calls Tryz.prog 68 #[.int .i32 r] w fun e w' => ∃ v, e = .returned v ∧ BytesV w' v (runeF r) ∧ Below w.heap.size w w' := by
  have HW := Lib.hid (RWidth_any r w)
  by_cases h0 : widthF r = 0
  · have HR : Hid (runeF r = []) := by rw [Hid, runeF, if_pos h0]
    rw [h0] at HW
    clear h0
    go_enter Tryz.func68, Tryz.ntmps68
    go_wp2_with fail
    refine HW.out.mono ?_
    rintro e w' ⟨rfl, rfl⟩
    go_wp2
    go_ret
    exact ⟨_, rfl, by rw [HR.out]; exact ⟨none, 0, 0, rfl, Rd.none_⟩, Below.refl _ _⟩
  · have hpos : 0 < widthF r := by omega
    have hc := runeF_cells r hpos
    have hr : 0 ≤ r ∧ r ≤ 1114111 := by unfold widthF at h0; split at h0 <;> omega
    by_cases h1 : r < 128
    · have e1 : widthF r = 1 := by unfold widthF at h0 ⊢; repeat' split at h0
                                   all_goals (repeat' split) <;> omega
      have HC := Lib.hid (hc _ (encodeRuneZ_one hr.1 (by omega)))
      rw [e1] at HW
      clear hc h0 hpos e1
      obtain ⟨hr1, hr2⟩ := hr
      go_enter Tryz.func68, Tryz.ntmps68
      go_wp2_with fail
      refine HW.out.mono ?_
      rintro e w' ⟨rfl, rfl⟩
      go_wp2
      go_ret
      exact ⟨_, rfl, bytes_lit _ _ _ _ _ rfl (by decide) HC.out, (Below.refl _ _).alloc (Nat.le_refl _) _⟩
    · by_cases h2 : r < 2048
      · have e1 : widthF r = 2 := by unfold widthF at h0 ⊢; repeat' split at h0
                                     all_goals (repeat' split) <;> omega
        have HC := Lib.hid (hc _ (encodeRuneZ_two (by omega) (by omega)))
        rw [e1] at HW
        clear hc h0 hpos e1
        obtain ⟨hr1, hr2⟩ := hr
        go_enter Tryz.func68, Tryz.ntmps68
        go_wp2_with fail
        refine HW.out.mono ?_
        rintro e w' ⟨rfl, rfl⟩
        go_wp2
        go_ret
        exact ⟨_, rfl, bytes_lit _ _ _ _ _ rfl (by decide) HC.out, (Below.refl _ _).alloc (Nat.le_refl _) _⟩
      · by_cases h3 : r < 65536
        · have e1 : widthF r = 3 := by unfold widthF at h0 ⊢; repeat' split at h0
                                       all_goals (repeat' split) <;> omega
          have h5 : ¬ (55296 ≤ r ∧ r ≤ 57343) := by unfold widthF at h0; split at h0 <;> omega
          have HC := Lib.hid (hc _ (encodeRuneZ_three (by omega)))
          rw [e1] at HW
          clear hc h0 hpos e1 h5
          obtain ⟨hr1, hr2⟩ := hr
          go_enter Tryz.func68, Tryz.ntmps68
          go_wp2_with fail
          refine HW.out.mono ?_
          rintro e w' ⟨rfl, rfl⟩
          go_wp2
          go_ret
          exact ⟨_, rfl, bytes_lit _ _ _ _ _ rfl (by decide) HC.out, (Below.refl _ _).alloc (Nat.le_refl _) _⟩
        · have e1 : widthF r = 4 := by unfold widthF at h0 ⊢; repeat' split at h0
                                       all_goals (repeat' split) <;> omega
          have HC := Lib.hid (hc _ (encodeRuneZ_four (by omega) (by omega)))
          rw [e1] at HW
          clear hc h0 hpos e1
          obtain ⟨hr1, hr2⟩ := hr
          go_enter Tryz.func68, Tryz.ntmps68
          go_wp2_with fail
          refine HW.out.mono ?_
          rintro e w' ⟨rfl, rfl⟩
          go_wp2
          go_ret
          exact ⟨_, rfl, bytes_lit _ _ _ _ _ rfl (by decide) HC.out, (Below.refl _ _).alloc (Nat.le_refl _) _⟩
end Go.Proofs.YtlnojpllgclgfaaGreat
namespace Go.Proofs.YtlnojpllgclgfaaGreat
open Go.RowKit Go.Lib
section
variable {P : Program} {ops : Array Oper} {Q : Exit → Act → World → Prop} {md : Region.Mode} {Le : World → World → Prop}
def wpU (P : Program) (md : Region.Mode) (ops : Array Oper) (Le : World → World → Prop) (Q : Exit → Act → World → Prop) : Nat → Array Bool → Act → World → Prop
  | 0, listed, a, w => Region.ready md ops listed = [] ∧ ∀ W, Le w W → Q .normal a W
  | n + 1, listed, a, w => (Region.ready md ops listed = [] → ∀ W, Le w W → Q .normal a W) ∧
      ∀ i ∈ Region.ready md ops listed, ∀ W, Le w W → wpOp P ops Q i (fun a' w' => Le W w' ∧ wpU P md ops Le Q n (listed.setIfInBounds i true) a' w') a W
theorem wpU_up (ht : ∀ a b c, Le a b → Le b c → Le a c) : ∀ (n : Nat) (listed : Array Bool) (a : Act) (w W : World), wpU P md ops Le Q n listed a w → Le w W → wpU P md ops Le Q n listed a W
  | 0, _, _, _, _, h, hW => ⟨h.1, fun V hV => h.2 V (ht _ _ _ hW hV)⟩
  | _ + 1, _, _, _, _, h, hW => ⟨fun h0 V hV => h.1 h0 V (ht _ _ _ hW hV), fun i hi V hV => h.2 i hi V (ht _ _ _ hW hV)⟩
theorem wpAny_of_U (hrf : ∀ a, Le a a) : ∀ (n : Nat) (listed : Array Bool) (a : Act) (w : World), wpU P md ops Le Q n listed a w → wpAny P md ops Q n listed a w
  | 0, _, _, _, h => ⟨h.1, h.2 _ (hrf _)⟩
  | n + 1, _, _, _, h => ⟨fun h0 => h.1 h0 _ (hrf _), fun i hi => wpOp_mono (fun a' w' h' => wpAny_of_U hrf n _ a' w' h'.2) (h.2 i hi _ (hrf _))⟩
theorem YieldsIf.weaken {S T : World → Prop} {o : Oper} {v : Value} {a : Act} (h : YieldsIf P ops S o v a) (hT : ∀ w, T w → S w) : YieldsIf P ops T o v a :=
  h.imp (fun ⟨h1, h2⟩ => ⟨h1, fun w hw => h2 w (hT w hw)⟩) id
theorem wpU_first (hrf : ∀ a, Le a a) (ht : ∀ a b c, Le a b → Le b c → Le a c) {i : Nat} {oi : Oper} {v : Value} (hi : ops[i]? = some oi)
    (hsel : ∀ (j : Nat) (o : Oper) cs b, ops[j]? = some o → o.op ≠ .select cs b)
    (hQ : ∀ c a w, Q (.panic c) (a.put oi.dst v) w → Q (.panic c) a w) :
    ∀ (n : Nat) (listed : Array Bool) (a : Act) (w : World),
      (∀ j oj, ops[j]? = some oj → j ≠ i → listed.getD j true = false → (∀ e ∈ oj.after, Region.binds md e = true → e.on ≠ i) → oi.apart ops oj = true) →
      i ∈ Region.ready md ops listed → YieldsIf P ops (Le w) oi v a →
      wpU P md ops Le Q n (listed.setIfInBounds i true) (a.put oi.dst v) w → wpU P md ops Le Q (n + 1) listed a w := by
  intro n
  induction n with
  | zero =>
    intro listed a w _ hr hy H
    refine ⟨fun h => (by rw [h] at hr; cases hr), fun j hj W hW => ?_⟩
    by_cases hji : j = i
    · subst hji; exact hy.wpOp hi hW ⟨hrf _, wpU_up ht _ _ _ _ _ H hW⟩
    · have := ready_mono hj hji
      rw [H.1] at this
      cases this
  | succ n ih =>
    intro listed a w hfree hr hy H
    refine ⟨fun h => (by rw [h] at hr; cases hr), fun j hj W hW => ?_⟩
    by_cases hji : j = i
    · subst hji; exact hy.wpOp hi hW ⟨hrf _, wpU_up ht _ _ _ _ _ H hW⟩
    · have h1 := H.2 j (ready_mono hj hji) W hW
      obtain ⟨hjun, oj, hoj, hall⟩ := mem_ready.1 hj
      have hnot : ∀ e ∈ oj.after, Region.binds md e = true → e.on ≠ i := fun e he hb heq => by
        have h1 := hall e he hb
        have h0 := (mem_ready.1 hr).1
        rw [heq] at h1
        rcases Nat.lt_or_ge i listed.size with h' | h'
        · simp [h'] at h0 h1; rw [h0] at h1; cases h1
        · simp [Array.getElem?_eq_none h'] at h1
      have h2 := wpOp_putIf (S := Le w) hoj (hfree j oj hoj hji hjun hnot) (fun cs b => hsel i oi cs b hi) (fun cs b => hsel j oj cs b hoj) hQ hy h1
      have hfree' : ∀ k ok, ops[k]? = some ok → k ≠ i → (listed.setIfInBounds j true).getD k true = false →
          (∀ e ∈ ok.after, Region.binds md e = true → e.on ≠ i) → oi.apart ops ok = true := fun k ok hk hki hun hno => by
        refine hfree k ok hk hki ?_ hno
        by_cases hjk : j = k
        · subst hjk; exact hjun
        · rw [getD_set_ne true hjk] at hun; exact hun
      refine wpOp_mono (fun a' w' h3 => ⟨h3.2.1, ih (listed.setIfInBounds j true) a' w' hfree' (ready_mono hr (Ne.symm hji)) (YieldsIf.weaken h3.1 fun V hV => ht _ _ _ (ht _ _ _ hW h3.2.1) hV) ?_⟩) h2
      rw [Array.setIfInBounds_comm _ _ hji]
      exact h3.2.2
def schedOk (md : Region.Mode) (ops : Array Oper) : List (Nat × Bool) → Array Bool → Bool
  | [], listed => (Region.ready md ops listed).isEmpty
  | (i, s) :: rest, listed => (if s then (Region.ready md ops listed).contains i && Region.free md ops listed i else Region.ready md ops listed == [i]) && schedOk md ops rest (listed.setIfInBounds i true)
def wpMix (P : Program) (ops : Array Oper) (Le : World → World → Prop) (Q : Exit → Act → World → Prop) : List (Nat × Bool) → Act → World → Prop
  | [], a, w => ∀ W, Le w W → Q .normal a W
  | (i, s) :: rest, a, w => match ops[i]? with
    | none => True
    | some o => if s then
        (if Region.wanted o (yielded ops a.tmps) then ∃ v, (∀ W, Le w W → (execOp a.eval o).run P W = .ok (.value v) W) ∧ wpMix P ops Le Q rest (a.put o.dst v) w else wpMix P ops Le Q rest (a.put o.dst undef) w)
      else ∀ W, Le w W → if Region.wanted o (yielded ops a.tmps) then o.wp P a W (fun a' w' => Le W w' ∧ wpMix P ops Le Q rest a' w') Q else wpMix P ops Le Q rest (a.put o.dst undef) W
theorem ready_some {i : Nat} {listed : Array Bool} (h : i ∈ Region.ready md ops listed) : ∃ o, ops[i]? = some o := by
  obtain ⟨_, o, ho, _⟩ := mem_ready.1 h
  exact ⟨o, ho⟩
theorem panic_put (hQ : ∀ c a (d : Tmp) v w, Q (.panic c) (a.put (some d) v) w → Q (.panic c) a w) (c : List PanicEntry) (a : Act) (d : Option Tmp) (v : Value) (w : World)
    (h : Q (.panic c) (a.put d v) w) : Q (.panic c) a w := by
  cases d with
  | none => exact h
  | some d => exact hQ c a d v w h
theorem wpMix_sound (hrf : ∀ a, Le a a) (ht : ∀ a b c, Le a b → Le b c → Le a c) (hs : Region.noSelect ops = true)
    (hQ : ∀ c a (d : Tmp) v w, Q (.panic c) (a.put (some d) v) w → Q (.panic c) a w) :
    ∀ (ord : List (Nat × Bool)) (listed : Array Bool) (a : Act) (w : World), schedOk md ops ord listed = true → wpMix P ops Le Q ord a w → wpU P md ops Le Q ord.length listed a w
  | [], listed, a, w, hB, h => ⟨by simpa [schedOk] using hB, h⟩
  | (i, true) :: rest, listed, a, w, hB, h => by
    simp only [schedOk, if_true, Bool.and_eq_true] at hB
    obtain ⟨⟨hr, hf⟩, hB⟩ := hB
    obtain ⟨o, ho⟩ := ready_some (by simpa using hr)
    simp only [wpMix, ho, if_true] at h
    by_cases hw : Region.wanted o (yielded ops a.tmps) = true
    · simp only [hw, if_true] at h
      obtain ⟨v, hv, h⟩ := h
      exact wpU_first hrf ht ho (Region.noSelect_spec hs) (fun c a w => panic_put hQ c a _ _ w) _ listed a w (Region.free_spec ho hf) (by simpa using hr) (.inl ⟨hw, hv⟩) (wpMix_sound hrf ht hs hQ rest _ _ _ hB h)
    · simp only [hw] at h
      exact wpU_first hrf ht ho (Region.noSelect_spec hs) (fun c a w => panic_put hQ c a _ _ w) _ listed a w (Region.free_spec ho hf) (by simpa using hr) (.inr ⟨by simpa using hw, rfl⟩) (wpMix_sound hrf ht hs hQ rest _ _ _ hB h)
  | (i, false) :: rest, listed, a, w, hB, h => by
    simp only [schedOk, Bool.and_eq_true, Bool.false_eq_true, if_false, beq_iff_eq] at hB
    obtain ⟨hr, hB⟩ := hB
    obtain ⟨o, ho⟩ := ready_some (i := i) (by rw [hr]; simp)
    simp only [wpMix, ho, Bool.false_eq_true, if_false] at h
    refine ⟨fun h0 => (by rw [hr] at h0; cases h0), fun j hj W hW => ?_⟩
    rw [hr] at hj
    obtain rfl := List.mem_singleton.1 hj
    have h1 := h W hW
    unfold wpOp
    simp only [ho]
    split
    · rename_i hw
      simp only [hw, if_true] at h1
      exact .inl (Oper.wp_mono (fun a' w' h' => ⟨h'.1, wpMix_sound hrf ht hs hQ rest _ _ _ hB h'.2⟩) h1)
    · rename_i hw
      simp only [hw] at h1
      exact ⟨hrf _, wpMix_sound hrf ht hs hQ rest _ _ _ hB h1⟩
theorem wpMix_nil {a : Act} {w : World} (h : ∀ W, Le w W → Q .normal a W) : wpMix P ops Le Q [] a w := h
theorem wpMix_still {i : Nat} {o : Oper} {rest : List (Nat × Bool)} {a : Act} {w : World} (ho : ops[i]? = some o)
    (h : ∀ K : Act → Prop, Hid (∀ a, wpMix P ops Le Q rest a w → K a) → if Region.wanted o (yielded ops a.tmps) then ∃ v, (∀ W, Le w W → (execOp a.eval o).run P W = .ok (.value v) W) ∧ K (a.put o.dst v) else K (a.put o.dst undef)) :
    wpMix P ops Le Q ((i, true) :: rest) a w := by
  simp only [wpMix, ho, if_true]
  exact h _ (fun _ h => h)
theorem wpMix_loud {i : Nat} {o : Oper} {rest : List (Nat × Bool)} {a : Act} {w : World} (ho : ops[i]? = some o)
    (h : ∀ (K : Act → World → Prop) (W : World), Hid (Le w W) → Hid (∀ a w', Le W w' → wpMix P ops Le Q rest a w' → K a w') → if Region.wanted o (yielded ops a.tmps) then o.wp P a W K Q else (Le W W → K (a.put o.dst undef) W)) (hrf : ∀ a, Le a a) :
    wpMix P ops Le Q ((i, false) :: rest) a w := by
  simp only [wpMix, ho, Bool.false_eq_true, if_false]
  intro W hW
  have h1 := h (fun a' w' => Le W w' ∧ wpMix P ops Le Q rest a' w') W hW (fun _ _ h1 h2 => ⟨h1, h2⟩)
  split
  · rename_i hw; simpa only [hw, if_true] using h1
  · rename_i hw
    simp only [hw] at h1
    exact (h1 (hrf W)).2
abbrev LeB (w W : World) : Prop := Below w.heap.size w W
theorem LeB.refl (w : World) : LeB w w := Below.refl _ w
theorem LeB.trans (a b c : World) (h : LeB a b) (k : LeB b c) : LeB a c := Below.trans h (Below.mono k h.size)
theorem LeB.drew (w : World) : LeB w w.drew := (Below.refl _ w).drew
theorem wp_region_mix {id : Nat} {a : Act} {w : World} {l : List Oper} (hrf : ∀ a, Le a a) (ht : ∀ a b c, Le a b → Le b c → Le a c) (ord : List (Nat × Bool)) (hm : P.follows .mixedOrders = true)
    (hB : (Region.noSelect l.toArray && ord.length == l.length && schedOk .any l.toArray ord (Array.replicate l.length false)) = true)
    (hQ : ∀ c a (d : Tmp) v w, Q (.panic c) (a.put (some d) v) w → Q (.panic c) a w)
    (h : wpMix P l.toArray Le Q ord a w.drew) : (Code.region id l.toArray true).wp P Q a w := by
  simp only [Bool.and_eq_true, beq_iff_eq] at hB
  obtain ⟨⟨h1, h2⟩, h3⟩ := hB
  refine wp_region_any hm (wpAny_of_U hrf _ _ _ _ ?_)
  have := wpMix_sound hrf ht h1 hQ ord _ a _ h3 h
  rw [h2] at this
  simpa using this
theorem wp_region_mixB {id : Nat} {a : Act} {w : World} {l : List Oper} (ord : List (Nat × Bool)) (hm : P.follows .mixedOrders = true)
    (hB : (Region.noSelect l.toArray && ord.length == l.length && schedOk .any l.toArray ord (Array.replicate l.length false)) = true)
    (hQ : ∀ c a (d : Tmp) v w, Q (.panic c) (a.put (some d) v) w → Q (.panic c) a w)
    (h : ∀ W, Hid (LeB w W) → wpMix P l.toArray LeB Q ord a W) : (Code.region id l.toArray true).wp P Q a w :=
  wp_region_mix LeB.refl LeB.trans ord hm hB hQ (h _ (LeB.drew w))
end
theorem Rd.litN (w : World) (B : Nat) (hB : w.heap.size = B) (t : TypeId) (cs : Array Value) (size n : Nat) (hs : cs.size = n * size) (hm : n ≤ maxLen) :
    Rd (w.alloc (.cells cs t)) (fun b => B ≤ b) size (some ⟨B, 0, none⟩) n n cs.toList := by
  subst hB; exact Rd.lit w t cs size n hs hm
end Go.Proofs.YtlnojpllgclgfaaGreat
namespace Go.Proofs.YtlnojpllgclgfaaGreat
open Go.RowKit Go.Lib
def leadN : Nat → Int
  | 2 => 192
  | 3 => 224
  | 4 => 240
  | _ => 0
def byteAt (l : List UInt8) (i : Nat) : Int := (l.getD i 0).toNat
def vp (l : List UInt8) (n : Nat) : Nat → Int
  | 0 => byteAt l 0 - leadN n
  | j + 1 => 64 * vp l n j + byteAt l (j + 1) - 128
def hit (l : List UInt8) (n : Nat) : Prop := 0 ≤ vp l n (n - 1) ∧ vp l n (n - 1) ≤ 1114111 ∧ runeF (vp l n (n - 1)) = l.take n
theorem byteAt_range (l : List UInt8) (i : Nat) : 0 ≤ byteAt l i ∧ byteAt l i < 256 := by
  unfold byteAt; have := (l.getD i 0).toNat_lt; omega
theorem vp_range (l : List UInt8) (n j : Nat) (hj : j ≤ 3) : -1000000000 ≤ vp l n j ∧ vp l n j ≤ 1000000000 := by
  have h0 := byteAt_range l 0
  have h1 := byteAt_range l 1
  have h2 := byteAt_range l 2
  have h3 := byteAt_range l 3
  have hl : 0 ≤ leadN n ∧ leadN n ≤ 240 := by unfold leadN; split <;> omega
  match j, hj with
  | 0, _ => simp only [vp]; omega
  | 1, _ => simp only [vp, Nat.zero_add]; omega
  | 2, _ => simp only [vp, Nat.zero_add, Nat.reduceAdd]; omega
  | 3, _ => simp only [vp, Nat.zero_add, Nat.reduceAdd]; omega
theorem hit_first (l : List UInt8) (n : Nat) (h1 : 1 ≤ n) (hn : n ≤ l.length) (h : hit l n) : firstF l = (vp l n (n - 1), n) := by
  obtain ⟨_, _, h⟩ := h
  generalize vp l n (n - 1) = v at h ⊢
  have hlen := congrArg List.length h
  rw [List.length_take, Nat.min_eq_left hn] at hlen
  have hw : 0 < widthF v := by
    rcases Nat.eq_zero_or_pos (widthF v) with h0 | h0
    · rw [runeF, if_pos h0] at hlen
      simp at hlen
      omega
    · exact h0
  rw [runeF, if_neg (by omega)] at h hlen
  rw [enc_width v hw] at hlen
  have : l = encodeRune v ++ l.drop n := by rw [h, List.take_append_drop]
  rw [this, firstF_enc v hw, hlen]
theorem getD_take (l : List UInt8) (n i : Nat) (h : i < n) : l.getD i 0 = (l.take n).getD i 0 := by simp [List.getD, h]
theorem first_miss (l : List UInt8) (hne : l ≠ []) (h : ∀ n, 1 ≤ n → n ≤ 4 → n ≤ l.length → ¬ hit l n) : firstF l = (-1, 1) := by
  by_cases hb : (firstF l).1 = -1
  · have hd := hb
    unfold firstF at hd ⊢
    split at hd
    · rename_i h1; rw [if_pos h1]
    · exfalso; simp only at hd; omega
  · exfalso
    have hg := firstF_good l hne hb
    have hle := firstF_le l hne
    have hpos := firstF_pos l
    have hr := firstF_range l
    have hd : (firstF l).1 = ((decodeL l).1 : Int) := by
      unfold firstF at hb ⊢
      split
      · rename_i h1; rw [if_pos h1] at hb; exact absurd rfl hb
      · rfl
    generalize hv : (firstF l).1 = v at hb hg hr hd
    generalize (firstF l).2 = n at hg hle hpos
    have hlen := congrArg List.length hg
    rw [List.length_take, Nat.min_eq_left hle] at hlen
    have hsur : ¬ (55296 ≤ v ∧ v ≤ 57343) := by
      intro hs
      have h1 : v = ((decodeL l).1 : Int) := hd
      have h2 := decodeL_N l
      rcases decodeN_shape l.length (l.getD 0 0).toNat (l.getD 1 0).toNat (l.getD 2 0).toNat (l.getD 3 0).toNat with ⟨c, e⟩ | ⟨c1, c2, c3, cv, e⟩ | ⟨c1, c2, c3, c4, cv, cs, e⟩ | ⟨c1, c2, c3, c4, c5, cv, cw, e⟩ | e
      all_goals (rw [e] at h2; rw [h2] at h1; dsimp only at h1; omega)
    have hw : 0 < widthF v := by unfold widthF; rw [if_neg (by omega)]; repeat' split
                                 all_goals omega
    have hrf : runeF v = encodeRune v := by rw [runeF, if_neg (by omega)]
    have hn4 : n = widthF v := by rw [hlen, enc_width v hw]
    have hb0 := getD_take l n 0 (by omega)
    have hvp : vp l n (n - 1) = v := by
      have key : ∀ i, i < n → byteAt l i = (encodeRuneZ v).getD i 0 := by
        intro i hi
        unfold byteAt
        rw [getD_take l n i hi, hg, encodeRune]
        have hil : i < (encodeRuneZ v).length := by
          have := enc_width v hw
          rw [encodeRune, List.length_map] at this
          omega
        have hz := encodeRuneZ_byte v (encodeRuneZ v)[i] (List.getElem_mem hil)
        simp only [List.getD, List.getElem?_map, List.getElem?_eq_getElem hil, Option.map_some, Option.getD_some]
        rw [getD_enc _ (by omega), Int.toNat_of_nonneg hz.1]
      rw [hn4] at key ⊢
      unfold widthF at hw key ⊢
      rw [if_neg (by omega)] at key ⊢
      by_cases h1 : v < 128
      · rw [if_pos h1] at key ⊢
        have k0 := key 0 (by omega)
        rw [encodeRuneZ_one (by omega) (by omega)] at k0
        show vp l 1 0 = v
        simp only [vp, leadN, k0]
        simp
      · rw [if_neg h1] at key ⊢
        by_cases h2 : v < 2048
        · rw [if_pos h2] at key ⊢
          have k0 := key 0 (by omega)
          have k1 := key 1 (by omega)
          rw [encodeRuneZ_two (by omega) (by omega)] at k0 k1
          show vp l 2 1 = v
          simp only [vp, leadN, Nat.zero_add, k0, k1, List.getD_cons_zero, List.getD_cons_succ]
          omega
        · rw [if_neg h2] at key ⊢
          by_cases h3 : v < 65536
          · rw [if_pos h3] at key ⊢
            have k0 := key 0 (by omega)
            have k1 := key 1 (by omega)
            have k2 := key 2 (by omega)
            rw [encodeRuneZ_three (by omega)] at k0 k1 k2
            show vp l 3 2 = v
            simp only [vp, leadN, Nat.zero_add, Nat.reduceAdd, k0, k1, k2, List.getD_cons_zero, List.getD_cons_succ]
            omega
          · rw [if_neg h3] at key ⊢
            have k0 := key 0 (by omega)
            have k1 := key 1 (by omega)
            have k2 := key 2 (by omega)
            have k3 := key 3 (by omega)
            rw [encodeRuneZ_four (by omega) (by omega)] at k0 k1 k2 k3
            show vp l 4 3 = v
            simp only [vp, leadN, Nat.zero_add, Nat.reduceAdd, k0, k1, k2, k3, List.getD_cons_zero, List.getD_cons_succ]
            omega
    refine h n hpos ?_ hle ⟨by rw [hvp]; omega, by rw [hvp]; omega, by rw [hvp, hrf, hg]⟩
    rw [hn4]; unfold widthF; repeat' split
    all_goals omega
set_option maxHeartbeats 2000000 in
set_option maxRecDepth 100000 in
theorem First_any (S : Nat → Prop) (A : Option Addr) (n c : Nat) (l : List UInt8) (w : World) (hr : Rd w S 1 A n c (bc l)) (hlen : l.length ≤ 1000000000) :
    Calls Tryz.prog 128 #[.slice A n c] w fun e w' =>
      e = .returned (.tuple #[.int .i32 (if l = [] then 0 else (firstF l).1), .int .i64 (if l = [] then (0 : Nat) else (firstF l).2 : Nat)]) ∧ Below w.heap.size w w' := by
  obtain rfl := bc_len hr
  have hle := hr.le
  have hmx : c ≤ 9223372036854775807 := hr.max
  cases hl : l with
  | nil =>
    subst hl
    go_enter Tryz.func128, Tryz.ntmps128
    go_wp2
    go_ret2
    exact ⟨rfl, Below.refl _ _⟩
  | cons b0 t0 =>
    rw [← hl, if_neg (by rw [hl]; simp), if_neg (by rw [hl]; simp)]
    have hpos : 0 < l.length := by rw [hl]; simp
    have hd0 : ((l.length : Int) == 0) = false := by rw [beq_eq_false_iff_ne]; omega
    have hd1 : (l.length == 0) = false := by rw [beq_eq_false_iff_ne]; omega
    clear hl b0 t0
    have HR := Lib.hid hr
    clear hr
    go_enter Tryz.func128, Tryz.ntmps128
    go_wp2
    have HC : Hid (∀ j, j ≤ 4 → (w.alloc (.cells #[.int .i64 0, .int .i64 0, .int .i64 192, .int .i64 224, .int .i64 240] 3)).cell? ⟨w.heap.size, j, none⟩ = some (.int .i64 (leadN j))) := by
      intro j hj
      rw [World.cell?_alloc_at _ _ _ _ rfl]
      match j, hj with
      | 0, _ => rfl
      | 1, _ => rfl
      | 2, _ => rfl
      | 3, _ => rfl
      | 4, _ => rfl
    have HR0 := Lib.hid (HR.out.alloc (.cells #[.int .i64 0, .int .i64 0, .int .i64 192, .int .i64 224, .int .i64 240] 3))
    have HB0 : Hid (Below w.heap.size w (w.alloc (.cells #[.int .i64 0, .int .i64 0, .int .i64 192, .int .i64 224, .int .i64 240] 3))) := (Below.refl _ _).alloc (Nat.le_refl _) _
    have hsz : (w.alloc (.cells #[.int .i64 0, .int .i64 0, .int .i64 192, .int .i64 224, .int .i64 240] 3)).heap.size = w.heap.size + 1 := by simp
    generalize w.alloc (.cells #[.int .i64 0, .int .i64 0, .int .i64 192, .int .i64 224, .int .i64 240] 3) = W0 at HC HR0 HB0 hsz
    have HSZ := Lib.hid hsz
    clear hsz
    go_loopw [5] (fun i wr => ∃ k : Nat, 1 ≤ k ∧ k ≤ 5 ∧ k ≤ l.length + 1 ∧ i = .int .i64 k ∧ Hid (∀ m, 1 ≤ m → m < k → ¬ hit l m) ∧ Hid (Below W0.heap.size W0 wr)) (fun i _ => 5 - (intOf i).toNat)
    case atStart => exact ⟨1, by omega, by omega, by omega, rfl, fun m h1 h2 => absurd h1 (by omega), Below.refl _ _⟩
    case round =>
      obtain ⟨k, hk1, hk5, hkl, rfl, HN, HB⟩ := hrel
      by_cases hin : k ≤ 4 ∧ k ≤ l.length
      · obtain ⟨h4, hkl2⟩ := hin
        obtain ⟨b, o, u, rfl, _, hu, hc0⟩ := (HR0.out.below HB.out).one hpos
        obtain ⟨hp0, rfl⟩ := bc_get hu
        clear hu
        have hc0' : wr.cell? ⟨b, o, none⟩ = some (.int .u8 (byteAt l 0)) := by
          rw [Nat.add_zero] at hc0; rw [hc0]; simp [byteAt, List.getD, hp0]
        clear hc0
        have hlead : wr.cell? ⟨w.heap.size, k, none⟩ = some (.int .i64 (leadN k)) := (HB.out.cell (p := ⟨w.heap.size, k, none⟩) (by show w.heap.size < W0.heap.size; have := HSZ.out; omega)).trans (HC.out k h4)
        have hb0 := byteAt_range l 0
        have hll : 0 ≤ leadN k ∧ leadN k ≤ 240 := by unfold leadN; split <;> omega
        have HV0 : Hid (vp l k 0 = byteAt l 0 - leadN k) := rfl
        go_wp2
        go_quiet (fail)
        go_wp2
        have HB1 := Lib.hid (below_drewN HB.out nq)
        generalize wr.drewN nq = w1 at HB1
        clear hc0' hlead
        go_loop [6, 7] (fun v i => ∃ j : Nat, j + 1 ≤ k ∧ i = .int .i64 ((j : Int) + 1) ∧ v = .int .i64 (vp l k j)) (fun _ i => k - (intOf i).toNat)
        case atStart => exact ⟨0, hk1, rfl, by rw [HV0.out]⟩
        case round =>
          obtain ⟨j, hj, rfl, rfl⟩ := hrel
          have hvr := vp_range l k j (by omega)
          by_cases hjk : j + 1 < k
          · obtain ⟨b2, o2, u, hA, _, hu, hc1⟩ := (HR0.out.below HB1.out).one (k := j + 1) (by omega)
            injection hA with hA
            injection hA with e1 e2
            subst e1 e2
            obtain ⟨hp1, rfl⟩ := bc_get hu
            clear hu
            have hc1' : w1.cell? ⟨b, o + (j + 1), none⟩ = some (.int .u8 (byteAt l (j + 1))) := by
              rw [hc1]; simp [byteAt, List.getD, hp1]
            have hb1 := byteAt_range l (j + 1)
            have hjk' : (j : Int) + 1 < (k : Int) := by omega
            have hjl : (j : Int) + 1 < (l.length : Int) := by omega
            have HV1 : Hid (vp l k (j + 1) = 64 * vp l k j + byteAt l (j + 1) - 128) := rfl
            clear hc1
            generalize vp l k j = v at hvr HV1 ⊢
            generalize byteAt l (j + 1) = b1 at hc1' hb1 HV1
            go_wp2
            go_round
            case rel => exact ⟨j + 1, by omega, by go_num, by rw [HV1.out]⟩
            case measure => simp [intOf]; omega
          · have hjk' : ¬ (j : Int) + 1 < (k : Int) := by omega
            have ej : j = k - 1 := by omega
            subst ej
            generalize hv : vp l k (k - 1) = v at hvr ⊢
            have HV := Lib.hid hv
            clear hv
            by_cases hv0 : 0 ≤ v ∧ v ≤ 1114111
            · obtain ⟨hv1, hv2⟩ := hv0
              have hv3 : decide (0 ≤ v) = true := by simpa using hv1
              have hv4 : decide (v ≤ 1114111) = true := by simpa using hv2
              have HT := Lib.hid ((HR0.out.below HB1.out).take (k := k) (by omega))
              have htk : (bc l).take (k * 1) = bc (l.take k) := by rw [Nat.mul_one, bc, bc, List.map_take]
              rw [htk] at HT
              clear htk
              have hcb : ∀ W, Below w1.heap.size w1 W → (convert 49 9 (.slice (some ⟨b, o, none⟩) k c)).run Tryz.prog W = .ok (.string ⟨(l.take k).toArray⟩) W := fun W hW =>
                run_bytes_string (HT.out.below hW) 49 9 5 Tryz.underlying49 Tryz.underlying5 Tryz.underlying9
              have hcb1 := hcb w1.drew ((Below.refl _ w1).drew)
              have HCB := Lib.hid hcb
              generalize htl : l.take k = tl at hcb1 HCB
              have HTL := Lib.hid htl
              clear htl hcb
              go_wp2
              refine wp_region_mixB [(0, true), (1, true), (2, true), (3, true), (4, true), (5, true), (6, true), (7, true), (8, true), (11, true), (12, true), (13, true), (14, true), (9, false), (10, true), (15, true), (16, true)] (by kernel_rfl) (by kernel_rfl) (fun _ _ _ _ _ h => h) ?_
              intro wd HLE
              have hcbd : ∀ W, LeB wd W → (convert 49 9 (.slice (some ⟨b, o, none⟩) k c)).run Tryz.prog W = .ok (.string ⟨tl.toArray⟩) W := fun W hW => HCB.out W (LeB.trans _ _ _ HLE.out hW)
              have hkc : k ≤ c := by omega
              repeat (refine wpMix_still rfl (fun K hK => ?_); go_simp; first | (refine hK.out _ ?_; clear hK K) | (apply Exists.intro; refine ⟨fun W hW => ?_, hK.out _ ?_⟩; (first | rfl | (rw [hcbd W hW]; rfl)); clear hK K))
              have hwr : IntKind.i32.wrap v = v := IntWalk.i32_in v (by omega)
              refine wpMix_loud rfl (fun K W HLW hK => ?_) LeB.refl
              go_simp
              refine (Rune_any v _ (by omega) (by omega)).mono ?_
              rintro e w2 ⟨v2, rfl, ⟨A2, n2, c2, rfl, hr2⟩, hb2⟩
              go_simp
              refine hK.out _ _ hb2 ?_
              clear hK K
              have hcr : ∀ W, LeB w2 W → (convert 49 9 (.slice A2 n2 c2)).run Tryz.prog W = _ := fun W hW =>
                run_bytes_string (hr2.below hW) 49 9 5 Tryz.underlying49 Tryz.underlying5 Tryz.underlying9
              repeat (refine wpMix_still rfl (fun K hK => ?_); go_simp; first | (refine hK.out _ ?_; clear hK K) | (apply Exists.intro; refine ⟨fun W hW => ?_, hK.out _ ?_⟩; (first | rfl | (rw [hcr W hW]; rfl)); clear hK K))
              refine wpMix_nil (fun W2 hW2 => ?_)
              have HBX := Lib.hid (Below.trans HB0.out ((HB1.out.trans (Below.mono HLE.out HB1.out.size) |>.trans (Below.mono HLW.out (Nat.le_trans HB1.out.size HLE.out.size)) |>.trans (Below.mono hb2 (Nat.le_trans HB1.out.size (Nat.le_trans HLE.out.size HLW.out.size))) |>.trans (Below.mono hW2 (Nat.le_trans HB1.out.size (Nat.le_trans HLE.out.size (Nat.le_trans HLW.out.size hb2.size))))).mono HB0.out.size))
              have HBY := Lib.hid (HB1.out.trans (Below.mono HLE.out HB1.out.size) |>.trans (Below.mono HLW.out (Nat.le_trans HB1.out.size HLE.out.size)) |>.trans (Below.mono hb2 (Nat.le_trans HB1.out.size (Nat.le_trans HLE.out.size HLW.out.size))) |>.trans (Below.mono hW2 (Nat.le_trans HB1.out.size (Nat.le_trans HLE.out.size (Nat.le_trans HLW.out.size hb2.size)))))
              clear hcr hb2 hW2 HLW HLE hr2
              go_wp2
              · rename_i heqb
                have heq : runeF v = tl := by simpa using heqb
                have hh : hit l k := ⟨by rw [HV.out]; exact hv1, by rw [HV.out]; exact hv2, by rw [HV.out, heq, HTL.out]⟩
                have hf := hit_first l k hk1 hkl2 hh
                rw [HV.out] at hf
                go_ret2
                exact ⟨by first | rfl | (rw [hf]; rfl), HBX.out⟩
              · rename_i heqb
                have heq : ¬ runeF v = tl := by simpa using heqb
                refine ⟨⟨k + 1, by omega, by omega, by omega, by go_num, ?_, HBY.out⟩, by simp [intOf]; omega⟩
                intro m h1 h2 hm
                by_cases hmk : m = k
                · subst hmk
                  obtain ⟨_, _, h3⟩ := hm
                  rw [HV.out, HTL.out] at h3
                  exact heq h3
                · exact HN.out m h1 (by omega) hm
            · have hnh : ¬ hit l k := fun hm => hv0 ⟨by rw [← HV.out]; exact hm.1, by rw [← HV.out]; exact hm.2.1⟩
              have fin : ∀ (n : Nat), Hid (Below W0.heap.size W0 (w1.drewN n)) := fun n => below_drewN HB1.out n
              by_cases hv1 : 0 ≤ v
              · have hv2 : ¬ v ≤ 1114111 := fun h => hv0 ⟨hv1, h⟩
                have hv3 : decide (0 ≤ v) = true := by simpa using hv1
                have hv4 : decide (v ≤ 1114111) = false := by simpa using hv2
                go_wp2
                go_quiet (fail)
                go_wp2
                have HBY := fin nq
                generalize w1.drewN nq = W2 at HBY
                go_round
                case rel =>
                  refine ⟨k + 1, by omega, by omega, by omega, by go_num, ?_, HBY.out⟩
                  intro m h1 h2 hm
                  by_cases hmk : m = k
                  · subst hmk; exact hnh hm
                  · exact HN.out m h1 (by omega) hm
                case measure => simp [intOf]; omega
              · have hv3 : decide (0 ≤ v) = false := by simpa using hv1
                go_wp2
                go_quiet (fail)
                go_wp2
                have HBY := fin nq
                generalize w1.drewN nq = W2 at HBY
                go_round
                case rel =>
                  refine ⟨k + 1, by omega, by omega, by omega, by go_num, ?_, HBY.out⟩
                  intro m h1 h2 hm
                  by_cases hmk : m = k
                  · subst hmk; exact hnh hm
                  · exact HN.out m h1 (by omega) hm
                case measure => simp [intOf]; omega
      · have hmiss : firstF l = (-1, 1) := first_miss l (by intro h; rw [h] at hpos; exact absurd hpos (by simp)) fun n h1 h4 hl hh => HN.out n h1 (by omega) hh
        have HBX := Lib.hid (HB0.out.trans (HB.out.mono HB0.out.size))
        by_cases h4 : k ≤ 4
        · have h5 : ¬ k ≤ l.length := fun h => hin ⟨h4, h⟩
          go_wp2
          go_ret2
          exact ⟨by first | rfl | (rw [hmiss]; rfl), HBX.out⟩
        · go_wp2
          go_ret2
          exact ⟨by first | rfl | (rw [hmiss]; rfl), HBX.out⟩
end Go.Proofs.YtlnojpllgclgfaaGreat
namespace Go.Proofs.YtlnojpllgclgfaaGreat
open Go.RowKit Go.Lib
set_option maxHeartbeats 1000000 in
set_option maxRecDepth 100000 in
theorem RItems_any (S : Nat → Prop) (A : Option Addr) (n c : Nat) (l : List UInt8) (w : World) (hr : Rd w S 1 A n c (bc l)) (hlen : l.length ≤ 300000000) :
    Calls Tryz.prog 107 #[.slice A n c] w fun e w' => ∃ v, e = .returned v ∧ (∃ n', w'.ownsRow w.heap.size 135 3 v n' (itemCells (itemsF l))) ∧ Below w.heap.size w w' := by
  obtain rfl := bc_len hr
  have hle := hr.le
  have hmx : c ≤ 9223372036854775807 := hr.max
  have HR := Lib.hid hr
  clear hr
  go_enter Tryz.func107, Tryz.ntmps107
  go_wp2
  go_loopw [3, 4] (fun v i wr => ∃ (pos : Nat) (o : List (Int × Nat × Nat)), i = .int .i64 pos ∧ Hid (Below w.heap.size w wr) ∧ Hid (itemsF l = o ++ itemsGo (l.drop pos).length pos (l.drop pos)) ∧ o.length ≤ pos ∧
      Hid (∃ n', wr.ownsRow w.heap.size 135 3 v n' (itemCells o)) ∧ pos ≤ l.length)
    (fun _ i _ => l.length - (intOf i).toNat)
  case atStart => exact ⟨0, [], rfl, Below.refl _ _, by simp [Hid, itemsF], Nat.le_refl _, ⟨0, World.ownsRow_nil _ _ _ _⟩, Nat.zero_le _⟩
  case round =>
    obtain ⟨pos, o, rfl, HB, HS2, hol, HO, hpos⟩ := hrel
    obtain ⟨no, HO⟩ := HO.out
    have hno : no = o.length := by have := HO.1; rw [itemCells_len] at this; omega
    obtain ⟨Ao, co, rfl, hro⟩ := own_form HO
    have hco : co ≤ 9223372036854775807 := hro.max
    have HO := Lib.hid HO
    have hnob : no ≤ 300000000 := by omega
    have HNO := Lib.hid hno
    clear hro hno
    by_cases hlt : pos < l.length
    · have hdl : (l.drop pos).length = l.length - pos := List.length_drop
      obtain ⟨A', hcut, hsl⟩ := (HR.out.below HB.out).cutL Tryz.underlying49 (fun _ => by simp [go_sem]) (P := Tryz.prog) (k := pos) (by omega)
      rw [Nat.mul_one, ← List.map_drop] at hcut
      have hne : l.drop pos ≠ [] := by
        intro h0
        rw [h0] at hdl
        simp at hdl
        omega
      have HF := Lib.hid (First_any S A' (l.length - pos) (c - pos) (l.drop pos) wr hcut (by omega))
      have hfl := firstF_le _ hne
      have hfp := firstF_pos (l.drop pos)
      have hfr := firstF_range (l.drop pos)
      have HST : Hid (itemsF l = (o ++ [((firstF (l.drop pos)).1, pos, (firstF (l.drop pos)).2)]) ++ itemsGo (l.drop (pos + (firstF (l.drop pos)).2)).length (pos + (firstF (l.drop pos)).2) (l.drop (pos + (firstF (l.drop pos)).2))) := by
        rw [Hid, HS2.out, itemsGo_step pos _ hne, List.drop_drop]
        simp
      rw [if_neg hne, if_neg hne] at HF
      generalize firstF (l.drop pos) = p at HF hfl hfp HST hfr
      clear hcut
      go_wp2_with fail
      refine HF.out.mono ?_
      rintro e w2 ⟨rfl, hb2⟩
      have HB2 := Lib.hid (HB.out.trans (hb2.mono HB.out.size))
      have HO2 := Lib.hid (own_below HO.out hb2)
      clear hb2
      go_wp2_with (first
        | (at_builtin
           refine append_ritems _ rfl (.tmp 18) (.tmp 23) rfl w.heap.size _ _ (itemCells o) rfl (HO2.out.alloc _) _ _ 1 1 (itemCells [(p.1, pos, p.2)]) rfl (Rd.lit w2 _ #[.int .i32 p.1, .int .i64 pos, .int .i64 p.2] 3 1 rfl (by decide)) (itemCells_one _) (by omega) (by have := HB2.out.size; simp; omega) ?_
           intro A4 c4 w4 hown4 hg4 _ _
           have hb4 := below_own (HB2.out.alloc HB2.out.size (.cells #[.int .i32 p.1, .int .i64 pos, .int .i64 p.2] 135)) (by have := HB2.out.size; simp; omega) (HO2.out.alloc _) hg4
           have HB4 := Lib.hid hb4
           have HO4 := Lib.hid hown4
           clear hown4 hg4 hb4))
      go_roundw
      case rel =>
        refine ⟨pos + p.2, _, by go_num, HB4.out, HST.out, ?_, ⟨_, by rw [itemCells_append]; exact HO4.out⟩, by omega⟩
        simp; omega
      case measure => simp [intOf]; omega
    · have HE : Hid (itemsF l = o) := by
        have : l.drop pos = [] := List.drop_eq_nil_of_le (by omega)
        rw [Hid, HS2.out, this, itemsGo_nil, List.append_nil]
      go_wp2
      go_ret
      exact ⟨_, rfl, ⟨_, by rw [HE.out]; exact HO.out⟩, HB.out⟩
end Go.Proofs.YtlnojpllgclgfaaGreat
