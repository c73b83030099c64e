/-
  Words for memory: a slice that reads as a list of cells ('Rd'), a predicate handed over as a function value ('PredOk'). No condition; plain lemmas over any program.
-/
import Derived.Test.YtbbplpmaknaadaaChecked
import Derived.KernelRfl
import Derived.WalkKit
import Derived.WalkSpells
import Derived.WalkLawsBesides
import Derived.Lib.Hide
import Derived.Deep.LoopGhost
import Derived.Deep.Draws
import Derived.Deep.AppendLies
import Derived.Maps.AppendAt
import Derived.Deep.QuietTactic
import Derived.BigQuiet
import Derived.Handy
import Derived.Shelf.Abstract
namespace Go.Proofs.Ytbbplpmaknaadaa
open Go.RowKit

/-- The slice value '.slice A n c' holds the cells xs ('size' cells each), in a block that S allows. -/
structure Rd (w : World) (S : Nat → Prop) (size : Nat) (A : Option Addr) (n c : Nat) (xs : List Value) : Prop where
  len : xs.length = n * size
  le : n ≤ c
  max : c ≤ maxLen
  nil : A = none → c = 0
  at_ : 0 < n → ∃ b o, A = some ⟨b, o, none⟩ ∧ S b ∧ ∀ j u, xs[j]? = some u → w.cell? ⟨b, o + j, none⟩ = some u

section
variable {w w' : World} {S T : Nat → Prop} {size n c : Nat} {A : Option Addr} {xs : List Value}

theorem Rd.none_ : Rd w S size none 0 0 [] := ⟨by simp, Nat.le_refl _, Nat.zero_le _, fun _ => rfl, fun h => absurd h (by omega)⟩

theorem Rd.one {k : Nat} (h : Rd w S 1 A n c xs) (hk : k < n) : ∃ b o u, A = some ⟨b, o, none⟩ ∧ S b ∧ xs[k]? = some u ∧ w.cell? ⟨b, o + k, none⟩ = some u := by
  obtain ⟨b, o, e, hb, hc⟩ := h.at_ (by omega)
  have hl : k < xs.length := by have := h.len; omega
  exact ⟨b, o, xs[k], e, hb, List.getElem?_eq_getElem hl, hc k _ (List.getElem?_eq_getElem hl)⟩

theorem Rd.keep (h : Rd w S size A n c xs) (hk : ∀ b, S b → b < w.heap.size → w'.heap[b]? = w.heap[b]?) : Rd w' S size A n c xs :=
  ⟨h.len, h.le, h.max, h.nil, fun hn => by
    obtain ⟨b, o, e, hb, hc⟩ := h.at_ hn
    refine ⟨b, o, e, hb, fun j u hu => ?_⟩
    have h0 := hc j u hu
    have hlt := World.block_lt_of_cell? w _ h0
    exact (World.cell?_of_block (w := w) (hk _ hb hlt)).trans h0⟩

theorem Rd.more (h : Rd w S size A n c xs) (hS : ∀ b, S b → T b) : Rd w T size A n c xs :=
  ⟨h.len, h.le, h.max, h.nil, fun hn => by
    obtain ⟨b, o, e, hb, hc⟩ := h.at_ hn
    exact ⟨b, o, e, hS _ hb, hc⟩⟩

/-- Below what stays, in a world in which all that lay, lies. -/
theorem Rd.below (h : Rd w S size A n c xs) (hb : Below w.heap.size w w') : Rd w' S size A n c xs := h.keep fun b _ hlt => hb.block b hlt
theorem Rd.belowB {B : Nat} (h : Rd w S size A n c xs) (hS : ∀ b, S b → b < B) (hb : Below B w w') : Rd w' S size A n c xs := h.keep fun b hs _ => hb.block b (hS b hs)
theorem Rd.alloc (h : Rd w S size A n c xs) (o : Obj) : Rd (w.alloc o) S size A n c xs := h.keep fun b _ hlt => Below.heap_alloc w o b hlt
theorem Rd.drew (h : Rd w S size A n c xs) : Rd w.drew S size A n c xs := h.keep fun _ _ _ => rfl
theorem Rd.drewN (h : Rd w S size A n c xs) (k : Nat) : Rd (w.drewN k) S size A n c xs := h.keep fun _ _ _ => rfl
theorem Rd.setCell (h : Rd w S size A n c xs) {p : Addr} (hp : ¬ S p.block) (u : Value) : Rd (w.setCell p u) S size A n c xs :=
  h.keep fun b hs _ => Below.heap_setCell w p u b (fun e => hp (e ▸ hs))
theorem Rd.grown {row : Option Nat} (h : Rd w S size A n c xs) (hg : w.grownBy w' row) (hr : ∀ g, row = some g → ¬ S g) : Rd w' S size A n c xs :=
  h.keep fun b hs hlt => hg.block b hlt (fun e => hr b e.symm hs)

theorem Rd.cut (h : Rd w S size A n c xs) {k : Nat} (hk : k ≤ n) :
    Rd w S size (if c = k then A else A.map (·.add (k * size))) (n - k) (c - k) (xs.drop (k * size)) := by
  refine ⟨by rw [List.length_drop, h.len, Nat.sub_mul], by have := h.le; omega, by have := h.max; omega, fun hA => ?_, fun hn => ?_⟩
  · by_cases e : c = k
    · omega
    · rw [if_neg e] at hA
      have : A = none := by cases A <;> simp_all
      have := h.nil this
      omega
  · obtain ⟨b, o, rfl, hb, hcell⟩ := h.at_ (by omega)
    have := h.le
    rw [if_neg (by omega)]
    refine ⟨b, o + k * size, by simp [Addr.add_lit], hb, fun j u hu => ?_⟩
    rw [Nat.add_assoc]
    exact hcell _ u (by rw [← hu, List.getElem?_drop])

theorem Rd.take (h : Rd w S size A n c xs) {k : Nat} (hk : k ≤ n) : Rd w S size A k c (xs.take (k * size)) := by
  refine ⟨?_, by have := h.le; omega, h.max, h.nil, fun hn => ?_⟩
  · rw [List.length_take, h.len]
    exact Nat.min_eq_left (Nat.mul_le_mul_right _ hk)
  · obtain ⟨b, o, rfl, hb, hcell⟩ := h.at_ (by omega)
    refine ⟨b, o, rfl, hb, fun j u hu => hcell j u ?_⟩
    rw [List.getElem?_take] at hu
    split at hu
    · exact hu
    · cases hu

theorem Rd.of_own {base : Nat} {e : TypeId} (h : w.ownsRow base e size (.slice A n c) n xs) : Rd w (fun b => base ≤ b) size A n c xs := by
  obtain ⟨hl, h2⟩ := h
  rcases h2 with ⟨h2, h3⟩ | ⟨g, cap, cur, hv, hb, hh, hn, hm, hs, ht⟩
  · injection h2 with h4 h5 h6
    subst h4 h5 h6
    exact ⟨hl, Nat.le_refl _, Nat.zero_le _, fun _ => rfl, fun h => absurd h (by omega)⟩
  · injection hv with h4 h5 h6
    subst h4 h6
    refine ⟨hl, hn, hm, (fun h => by cases h), fun h0 => ⟨_, _, rfl, hb, ?_⟩⟩
    intro j u hu
    have hown : w.ownsRow base e size (.slice (some ⟨g, 0, none⟩) n c) n xs := ⟨hl, .inr ⟨g, c, cur, rfl, hb, hh, hn, hm, hs, ht⟩⟩
    have := hown.cells rfl j u hu
    rw [Addr.add_lit] at this
    exact this
end

/-- 's[k:]': the cut, its address under a name. -/
theorem Rd.cutL {P : Program} {t : TypeId} {w : World} {S : Nat → Prop} {size n c : Nat} {A : Option Addr} {xs : List Value} (h : Rd w S size A n c xs)
    (ht : P.underlying t = some (.slice (P.elem t))) (hz : ∀ w, (sizeOf (P.elem t)).run P w = .ok size w) {k : Nat} (hk : k ≤ n) :
    ∃ A', Rd w S size A' (n - k) (c - k) (xs.drop (k * size)) ∧ ∀ W, (Instr.slice t (.slice A n c) (some (.int .i64 k)) none none).run P W = .ok (.slice A' (n - k) (c - k)) W := by
  refine ⟨_, h.cut hk, fun W => ?_⟩
  rw [run_slice_l W t A n c ht .i64 k (by omega) (by omega), hz]
  rfl

/-- 's[:k]' -/
theorem Rd.cutH {P : Program} {t : TypeId} {w : World} {S : Nat → Prop} {size n c : Nat} {A : Option Addr} {xs : List Value} (h : Rd w S size A n c xs)
    (ht : P.underlying t = some (.slice (P.elem t))) (hz : ∀ w, (sizeOf (P.elem t)).run P w = .ok size w) {k : Nat} (hk : k ≤ n) :
    ∃ A', Rd w S size A' k c (xs.take (k * size)) ∧ ∀ W, (Instr.slice t (.slice A n c) none (some (.int .i64 k)) none).run P W = .ok (.slice A' k c) W := by
  refine ⟨A, h.take hk, fun W => ?_⟩
  have := h.le
  rw [run_slice_h W t A n c ht .i64 k (by omega) (by omega), hz]
  simp [sliced, Addr.add]

/-- 's[j:k]' -/
theorem Rd.cutLH {P : Program} {t : TypeId} {w : World} {S : Nat → Prop} {size n c : Nat} {A : Option Addr} {xs : List Value} (h : Rd w S size A n c xs)
    (ht : P.underlying t = some (.slice (P.elem t))) (hz : ∀ w, (sizeOf (P.elem t)).run P w = .ok size w) {j k : Nat} (hj : j ≤ k) (hk : k ≤ n) :
    ∃ A', Rd w S size A' (k - j) (c - j) ((xs.drop (j * size)).take ((k - j) * size)) ∧
      ∀ W, (Instr.slice t (.slice A n c) (some (.int .i64 j)) (some (.int .i64 k)) none).run P W = .ok (.slice A' (k - j) (c - j)) W := by
  refine ⟨_, (h.cut (k := j) (by omega)).take (k := k - j) (by omega), fun W => ?_⟩
  have := h.le
  rw [run_slice_lh W t A n c ht .i64 .i64 j k (by omega) (by omega) (by omega), hz]
  rfl

/-- A row of known cells that was just laid. -/
theorem Rd.lit (w : World) (t : TypeId) (cs : Array Value) (size n : Nat) (hs : cs.size = n * size) (hm : n ≤ maxLen) :
    Rd (w.alloc (.cells cs t)) (fun b => w.heap.size ≤ b) size (some ⟨w.heap.size, 0, none⟩) n n cs.toList :=
  ⟨by simpa using hs, Nat.le_refl _, hm, fun h => (by cases h), fun _ => ⟨_, _, rfl, Nat.le_refl _, fun j u hu => by
    rw [World.cell?_alloc_at _ _ _ _ rfl, Nat.zero_add]; simpa using hu⟩⟩

/-- What is owned is a slice value. -/
theorem own_form {w : World} {base : Nat} {e : TypeId} {size n : Nat} {v : Value} {xs : List Value} (h : w.ownsRow base e size v n xs) :
    ∃ A c, v = .slice A n c ∧ Rd w (fun b => base ≤ b) size A n c xs := by
  have h' := h
  rcases h.2 with ⟨rfl, rfl⟩ | ⟨g, cap, cur, rfl, _⟩
  · exact ⟨none, 0, rfl, Rd.of_own h'⟩
  · exact ⟨some ⟨g, 0, none⟩, cap, rfl, Rd.of_own h'⟩

/-- A function value that answers a predicate on runes, in every world in which all that lay in w lies; it may make memory. -/
def PredOk (P : Program) (g : Nat) (caps : Array Value) (p : Int → Bool) (w : World) : Prop :=
  ∀ (W : World) (r : Int), Below w.heap.size w W → Calls P g (#[.int .i32 r] ++ caps) W fun e W' => e = .returned (.bool (p r)) ∧ Below W.heap.size W W'

theorem PredOk.later {P : Program} {g : Nat} {caps : Array Value} {p : Int → Bool} {w W : World} (h : PredOk P g caps p w) (hb : Below w.heap.size w W) : PredOk P g caps p W :=
  fun W' r hb' => h W' r (hb.trans (hb'.mono hb.size))

theorem ret_bool {a b : Bool} (h : a = b) : Ending.returned (.bool a) = .returned (.bool b) := by rw [h]
theorem ret_int {k : IntKind} {a b : Int} (h : a = b) : Ending.returned (.int k a) = .returned (.int k b) := by rw [h]

theorem ret_two {a b a' b' : Value} (h1 : a = a') (h2 : b = b') : Ending.returned (.tuple #[a, b]) = .returned (.tuple #[a', b']) := by rw [h1, h2]
theorem ret_ib {k : IntKind} {a : Int} {b : Bool} {x : Int × Bool} (h : x = (a, b)) : Ending.returned (.tuple #[.int k a, .bool b]) = .returned (.tuple #[.int k x.1, .bool x.2]) := by rw [h]

theorem below_drewN {B : Nat} {a w : World} (h : Below B a w) (n : Nat) : Below B a (w.drewN n) := ⟨h.os, h.tape, h.output, h.size, h.block⟩
theorem below_all {w w1 w2 : World} (h : Below w.heap.size w w1) (h2 : Below w1.heap.size w1 w2) : Below w.heap.size w w2 := h.trans (h2.mono h.size)

/-- runes as cells -/
abbrev rc (l : List Int) : List Value := l.map (Value.int .i32)
theorem rc_get {l : List Int} {k : Nat} {u : Value} (h : (rc l)[k]? = some u) : ∃ h : k < l.length, u = .int .i32 l[k] := by
  simp only [rc, List.getElem?_map, Option.map_eq_some_iff] at h
  obtain ⟨a, ha, rfl⟩ := h
  obtain ⟨hk, rfl⟩ := List.getElem?_eq_some_iff.1 ha
  exact ⟨hk, rfl⟩

end Go.Proofs.Ytbbplpmaknaadaa
