/- Lemmas, conditions told -/
import Derived.Test.YtcmjijpofkoogaaGreatChecked
import Derived.KernelRfl
import Derived.WalkKit
import Derived.WalkSpells
import Derived.WalkLawsBesides
import Derived.Lib.Hide
import Derived.Deep.LoopGhost
import Derived.Deep.Draws
import Derived.Deep.AppendLies
import Derived.Maps.AppendAt
import Derived.Deep.QuietTactic
import Derived.BigQuiet
import Derived.Handy
import Derived.Shelf.Abstract
import Derived.OrdersHeld
import Derived.Lib.MapLaws
import Derived.Laws.Cover4
import Derived.OpenShut
import Derived.Laws.BytesString
import Derived.Lib.AppendZeros
import Derived.Deep.RegionWith
import Derived.Deep.RegionHeld3
set_option linter.unusedSimpArgs false
set_option linter.unusedVariables false
namespace Go.Proofs.YtcmjijpofkoogaaGreat
open Go.RowKit
structure Rd (w : World) (S : Nat → Prop) (size : Nat) (A : Option Addr) (n c : Nat) (xs : List Value) : Prop where
  len : xs.length = n * size
  le : n ≤ c
  max : c ≤ maxLen
  nil : A = none → c = 0
  at_ : 0 < n → ∃ b o, A = some ⟨b, o, none⟩ ∧ S b ∧ ∀ j u, xs[j]? = some u → w.cell? ⟨b, o + j, none⟩ = some u
section
variable {w w' : World} {S T : Nat → Prop} {size n c : Nat} {A : Option Addr} {xs : List Value}
theorem Rd.one {k : Nat} (h : Rd w S 1 A n c xs) (hk : k < n) : ∃ b o u, A = some ⟨b, o, none⟩ ∧ S b ∧ xs[k]? = some u ∧ w.cell? ⟨b, o + k, none⟩ = some u := by
  obtain ⟨b, o, e, hb, hc⟩ := h.at_ (by omega)
  have hl : k < xs.length := by have := h.len; omega
  exact ⟨b, o, xs[k], e, hb, List.getElem?_eq_getElem hl, hc k _ (List.getElem?_eq_getElem hl)⟩
theorem Rd.keep (h : Rd w S size A n c xs) (hk : ∀ b, S b → b < w.heap.size → w'.heap[b]? = w.heap[b]?) : Rd w' S size A n c xs :=
  ⟨h.len, h.le, h.max, h.nil, fun hn => by
    obtain ⟨b, o, e, hb, hc⟩ := h.at_ hn
    refine ⟨b, o, e, hb, fun j u hu => ?_⟩
    have h0 := hc j u hu
    have hlt := World.block_lt_of_cell? w _ h0
    exact (World.cell?_of_block (w := w) (hk _ hb hlt)).trans h0⟩
theorem Rd.more (h : Rd w S size A n c xs) (hS : ∀ b, S b → T b) : Rd w T size A n c xs :=
  ⟨h.len, h.le, h.max, h.nil, fun hn => by
    obtain ⟨b, o, e, hb, hc⟩ := h.at_ hn
    exact ⟨b, o, e, hS _ hb, hc⟩⟩
theorem Rd.below (h : Rd w S size A n c xs) (hb : Below w.heap.size w w') : Rd w' S size A n c xs := h.keep fun b _ hlt => hb.block b hlt
theorem Rd.alloc (h : Rd w S size A n c xs) (o : Obj) : Rd (w.alloc o) S size A n c xs := h.keep fun b _ hlt => Below.heap_alloc w o b hlt
theorem Rd.drew (h : Rd w S size A n c xs) : Rd w.drew S size A n c xs := h.keep fun _ _ _ => rfl
theorem Rd.drewN (h : Rd w S size A n c xs) (k : Nat) : Rd (w.drewN k) S size A n c xs := h.keep fun _ _ _ => rfl
theorem Rd.setCell (h : Rd w S size A n c xs) {p : Addr} (hp : ¬ S p.block) (u : Value) : Rd (w.setCell p u) S size A n c xs :=
  h.keep fun b hs _ => Below.heap_setCell w p u b (fun e => hp (e ▸ hs))
theorem Rd.grown {row : Option Nat} (h : Rd w S size A n c xs) (hg : w.grownBy w' row) (hr : ∀ g, row = some g → ¬ S g) : Rd w' S size A n c xs :=
  h.keep fun b hs hlt => hg.block b hlt (fun e => hr b e.symm hs)
theorem Rd.cut (h : Rd w S size A n c xs) {k : Nat} (hk : k ≤ n) :
    Rd w S size (if c = k then A else A.map (·.add (k * size))) (n - k) (c - k) (xs.drop (k * size)) := by
  refine ⟨by rw [List.length_drop, h.len, Nat.sub_mul], by have := h.le; omega, by have := h.max; omega, fun hA => ?_, fun hn => ?_⟩
  · by_cases e : c = k
    · omega
    · rw [if_neg e] at hA
      have : A = none := by cases A <;> simp_all
      have := h.nil this
      omega
  · obtain ⟨b, o, rfl, hb, hcell⟩ := h.at_ (by omega)
    have := h.le
    rw [if_neg (by omega)]
    refine ⟨b, o + k * size, by simp [Addr.add_lit], hb, fun j u hu => ?_⟩
    rw [Nat.add_assoc]
    exact hcell _ u (by rw [← hu, List.getElem?_drop])
theorem Rd.take (h : Rd w S size A n c xs) {k : Nat} (hk : k ≤ n) : Rd w S size A k c (xs.take (k * size)) := by
  refine ⟨?_, by have := h.le; omega, h.max, h.nil, fun hn => ?_⟩
  · rw [List.length_take, h.len]
    exact Nat.min_eq_left (Nat.mul_le_mul_right _ hk)
  · obtain ⟨b, o, rfl, hb, hcell⟩ := h.at_ (by omega)
    refine ⟨b, o, rfl, hb, fun j u hu => hcell j u ?_⟩
    rw [List.getElem?_take] at hu
    split at hu
    · exact hu
    · cases hu
theorem Rd.of_own {base : Nat} {e : TypeId} (h : w.ownsRow base e size (.slice A n c) n xs) : Rd w (fun b => base ≤ b) size A n c xs := by
  obtain ⟨hl, h2⟩ := h
  rcases h2 with ⟨h2, h3⟩ | ⟨g, cap, cur, hv, hb, hh, hn, hm, hs, ht⟩
  · injection h2 with h4 h5 h6
    subst h4 h5 h6
    exact ⟨hl, Nat.le_refl _, Nat.zero_le _, fun _ => rfl, fun h => absurd h (by omega)⟩
  · injection hv with h4 h5 h6
    subst h4 h6
    refine ⟨hl, hn, hm, (fun h => by cases h), fun h0 => ⟨_, _, rfl, hb, ?_⟩⟩
    intro j u hu
    have hown : w.ownsRow base e size (.slice (some ⟨g, 0, none⟩) n c) n xs := ⟨hl, .inr ⟨g, c, cur, rfl, hb, hh, hn, hm, hs, ht⟩⟩
    have := hown.cells rfl j u hu
    rw [Addr.add_lit] at this
    exact this
end
theorem Rd.cutL {P : Program} {t : TypeId} {w : World} {S : Nat → Prop} {size n c : Nat} {A : Option Addr} {xs : List Value} (h : Rd w S size A n c xs)
    (ht : P.underlying t = some (.slice (P.elem t))) (hz : ∀ w, (sizeOf (P.elem t)).run P w = .ok size w) {k : Nat} (hk : k ≤ n) :
    ∃ A', Rd w S size A' (n - k) (c - k) (xs.drop (k * size)) ∧ ∀ W, (Instr.slice t (.slice A n c) (some (.int .i64 k)) none none).run P W = .ok (.slice A' (n - k) (c - k)) W := by
  refine ⟨_, h.cut hk, fun W => ?_⟩
  rw [run_slice_l W t A n c ht .i64 k (by omega) (by omega), hz]
  rfl
theorem Rd.cutLH {P : Program} {t : TypeId} {w : World} {S : Nat → Prop} {size n c : Nat} {A : Option Addr} {xs : List Value} (h : Rd w S size A n c xs)
    (ht : P.underlying t = some (.slice (P.elem t))) (hz : ∀ w, (sizeOf (P.elem t)).run P w = .ok size w) {j k : Nat} (hj : j ≤ k) (hk : k ≤ n) :
    ∃ A', Rd w S size A' (k - j) (c - j) ((xs.drop (j * size)).take ((k - j) * size)) ∧
      ∀ W, (Instr.slice t (.slice A n c) (some (.int .i64 j)) (some (.int .i64 k)) none).run P W = .ok (.slice A' (k - j) (c - j)) W := by
  refine ⟨_, (h.cut (k := j) (by omega)).take (k := k - j) (by omega), fun W => ?_⟩
  have := h.le
  rw [run_slice_lh W t A n c ht .i64 .i64 j k (by omega) (by omega) (by omega), hz]
  rfl
theorem Rd.lit (w : World) (t : TypeId) (cs : Array Value) (size n : Nat) (hs : cs.size = n * size) (hm : n ≤ maxLen) :
    Rd (w.alloc (.cells cs t)) (fun b => w.heap.size ≤ b) size (some ⟨w.heap.size, 0, none⟩) n n cs.toList :=
  ⟨by simpa using hs, Nat.le_refl _, hm, fun h => (by cases h), fun _ => ⟨_, _, rfl, Nat.le_refl _, fun j u hu => by
    rw [World.cell?_alloc_at _ _ _ _ rfl, Nat.zero_add]; simpa using hu⟩⟩
theorem own_form {w : World} {base : Nat} {e : TypeId} {size n : Nat} {v : Value} {xs : List Value} (h : w.ownsRow base e size v n xs) :
    ∃ A c, v = .slice A n c ∧ Rd w (fun b => base ≤ b) size A n c xs := by
  have h' := h
  rcases h.2 with ⟨rfl, rfl⟩ | ⟨g, cap, cur, rfl, _⟩
  · exact ⟨none, 0, rfl, Rd.of_own h'⟩
  · exact ⟨some ⟨g, 0, none⟩, cap, rfl, Rd.of_own h'⟩
def PredOk (P : Program) (g : Nat) (caps : Array Value) (p : Int → Bool) (w : World) : Prop :=
  ∀ (W : World) (r : Int), Below w.heap.size w W → Calls P g (#[.int .i32 r] ++ caps) W fun e W' => e = .returned (.bool (p r)) ∧ Below W.heap.size W W'
theorem ret_bool {a b : Bool} (h : a = b) : Ending.returned (.bool a) = .returned (.bool b) := by rw [h]
theorem ret_int {k : IntKind} {a b : Int} (h : a = b) : Ending.returned (.int k a) = .returned (.int k b) := by rw [h]
theorem ret_ib {k : IntKind} {a : Int} {b : Bool} {x : Int × Bool} (h : x = (a, b)) : Ending.returned (.tuple #[.int k a, .bool b]) = .returned (.tuple #[.int k x.1, .bool x.2]) := by rw [h]
theorem below_drewN {B : Nat} {a w : World} (h : Below B a w) (n : Nat) : Below B a (w.drewN n) := ⟨h.os, h.tape, h.output, h.size, h.block⟩
theorem below_all {w w1 w2 : World} (h : Below w.heap.size w w1) (h2 : Below w1.heap.size w1 w2) : Below w.heap.size w w2 := h.trans (h2.mono h.size)
abbrev rc (l : List Int) : List Value := l.map (Value.int .i32)
theorem rc_get {l : List Int} {k : Nat} {u : Value} (h : (rc l)[k]? = some u) : ∃ h : k < l.length, u = .int .i32 l[k] := by
  simp only [rc, List.getElem?_map, Option.map_eq_some_iff] at h
  obtain ⟨a, ha, rfl⟩ := h
  obtain ⟨hk, rfl⟩ := List.getElem?_eq_some_iff.1 ha
  exact ⟨hk, rfl⟩
end Go.Proofs.YtcmjijpofkoogaaGreat
namespace Go.Proofs.YtcmjijpofkoogaaGreat
open Go.RowKit
section
variable {P : Program} (w : World)
theorem run_append_of_nil (base : Nat) (t ty e : TypeId) (i : TypeInfo) (size : Nat) (ht : P.underlying t = some (.slice e)) (hi : P.info? e = some i)
    (v : Value) (n : Nat) (xs : List Value) (hown : w.ownsRow base e size v n xs) (c : Nat) : (Builtin.append_ #[t, t] ty #[v, .slice none 0 c]).run P w = .ok v w := by
  rcases hown.2 with ⟨rfl, rfl⟩ | ⟨g, cap, cur, rfl, _, _, hnc, _⟩
  · simp [Builtin.append_, run_underlying ht, sizeOf, typeInfo, hi, Builtin.lenOf, Builtin.firstCells]
  · simp [Builtin.append_, run_underlying ht, sizeOf, typeInfo, hi, Builtin.lenOf, Builtin.firstCells, hnc, storeCells]
theorem run_append_rd (base : Nat) (t ty e : TypeId) (i : TypeInfo) (z : Value) (size bytes : Nat) (ht : P.underlying t = some (.slice e)) (hi : P.info? e = some i) (hz : i.zero = some z)
    (hsize : i.size = size) (hby : i.bytes = bytes) (hzs : z.cells.size = size) (hsz : 0 < size)
    (v : Value) (n : Nat) (xs : List Value) (hown : w.ownsRow base e size v n xs)
    (S : Nat → Prop) (A : Option Addr) (m c : Nat) (news : List Value) (hr : Rd w S size A m c news) (h1 : ∀ u ∈ news, u.oneCell' = true)
    (h63 : n + m ≤ maxLen) (hbytes : (n + m) * bytes ≤ 140737488355328) (hbase : base ≤ w.heap.size) :
    ∃ v' w', (Builtin.append_ #[t, t] ty #[v, .slice A m c]).run P w = .ok v' w' ∧ w'.ownsRow base e size v' (n + m) (xs ++ news) ∧ w.grownBy w' v.ownBlock ∧
      (v'.ownBlock = v.ownBlock ∨ v'.ownBlock = some w.heap.size) := by
  rcases A with _ | ad
  · have hm : m = 0 := by have := hr.nil rfl; have := hr.le; omega
    subst hm
    have hn : news = [] := List.eq_nil_of_length_eq_zero (by simpa using hr.len)
    subst hn
    exact ⟨v, w, run_append_of_nil w base t ty e i size ht hi v n xs hown c, by simpa using hown, World.grownBy.refl w _, .inl rfl⟩
  · have hcells : ∀ j u, news[j]? = some u → w.cell? (ad.add j) = some u := by
      intro j u hu
      rcases Nat.eq_zero_or_pos m with h0 | h0
      · subst h0
        have hn : news = [] := List.eq_nil_of_length_eq_zero (by simpa using hr.len)
        subst hn
        simp at hu
      · obtain ⟨b, o, h, _, hc⟩ := hr.at_ h0
        injection h with h
        subst h
        rw [Addr.add_lit]
        exact hc j u hu
    obtain ⟨v', w', hrun, h2, h3, _, h5⟩ := run_append_own_at (P := P) w base t ty e i z size bytes ht hi hz hsize hby hzs hsz v n xs hown ad m c news hr.len hcells h1 h63 hbytes hbase
    exact ⟨v', w', hrun, h2, h3, h5⟩
theorem wpList_append_rd {ops : Array Oper} {rest : List Oper} {o : Oper} {a : Act} {Q : Exit → Act → World → Prop} (hgd : o.guard = none) (s x : Operand) (t : TypeId)
    (ho : o.op = .call { callee := .builtin .append, args := #[s, x], argTypes := #[t, t] })
    (base : Nat) (e : TypeId) (i : TypeInfo) (z : Value) (size bytes : Nat) (ht : P.underlying t = some (.slice e)) (hi : P.info? e = some i) (hz : i.zero = some z)
    (hsize : i.size = size) (hby : i.bytes = bytes) (hzs : z.cells.size = size) (hsz : 0 < size)
    (v : Value) (n : Nat) (xs : List Value) (hs : a.eval s = v) (hown : w.ownsRow base e size v n xs)
    (S : Nat → Prop) (A : Option Addr) (m c : Nat) (news : List Value) (hx : a.eval x = .slice A m c) (hr : Rd w S size A m c news) (h1 : ∀ u ∈ news, u.oneCell' = true)
    (h63 : n + m ≤ maxLen) (hbytes : (n + m) * bytes ≤ 140737488355328) (hbase : base ≤ w.heap.size)
    (h : ∀ v' w', w'.ownsRow base e size v' (n + m) (xs ++ news) → w.grownBy w' v.ownBlock → (v'.ownBlock = v.ownBlock ∨ v'.ownBlock = some w.heap.size) → wpList P ops Q rest (a.put o.dst v') w') : wpList P ops Q (o :: rest) a w := by
  refine wpList_plain hgd fun K hK => ?_
  obtain ⟨v', w', hrun, h2, h3, h4⟩ := run_append_rd (P := P) w base t o.type e i z size bytes ht hi hz hsize hby hzs hsz v n xs hown S A m c news hr h1 h63 hbytes hbase
  unfold Oper.wp execOp
  simp only [ho, resolve, invoke, builtin, Sem.run_bind, Sem.run_pure, Result.andThen_ok, List.map_toArray, List.map_cons, List.map_nil, hs, hx, hrun]
  exact hK _ _ (h v' w' h2 h3 h4)
end
theorem rc_one (l : List Int) : ∀ u ∈ rc l, u.oneCell' = true := ints_oneCell .i32 l
theorem Tryz.info21 : (Tryz.prog.info? 21).map (fun i => (i.zero, i.size, i.bytes)) = some (some (.int .i32 0), 1, 4) := by kernel_rfl
theorem append_runes (w : World) {ops : Array Oper} {rest : List Oper} {o : Oper} {a : Act} {Q : Exit → Act → World → Prop} (hgd : o.guard = none) (s x : Operand)
    (ho : o.op = .call { callee := .builtin .append, args := #[s, x], argTypes := #[24, 24] })
    (base : Nat) (v : Value) (n : Nat) (xs : List Int) (hs : a.eval s = v) (hown : w.ownsRow base 21 1 v n (rc xs))
    (S : Nat → Prop) (A : Option Addr) (m c : Nat) (ys : List Int) (hx : a.eval x = .slice A m c) (hr : Rd w S 1 A m c (rc ys))
    (hlen : n + m ≤ 1000000000) (hbase : base ≤ w.heap.size)
    (h : ∀ A' c' w', w'.ownsRow base 21 1 (.slice A' (n + m) c') (n + m) (rc (xs ++ ys)) → w.grownBy w' v.ownBlock → ((Value.slice A' (n + m) c').ownBlock = v.ownBlock ∨ (Value.slice A' (n + m) c').ownBlock = some w.heap.size) →
      c' ≤ 9223372036854775807 → wpList Tryz.prog ops Q rest (a.put o.dst (.slice A' (n + m) c')) w') :
    wpList Tryz.prog ops Q (o :: rest) a w := by
  obtain ⟨i0, hi, hz0, hz1, hz2⟩ := info_parts Tryz.info21
  refine wpList_append_rd w hgd s x 24 ho base 21 i0 _ 1 4 Tryz.underlying24 hi hz0 hz1 hz2 rfl (by omega) v n (rc xs) hs hown S A m c (rc ys) hx hr (rc_one ys) (by simp only [maxLen]; omega) (by omega) hbase ?_
  intro v' w' h1 h2 h3
  obtain ⟨A', c', rfl, hr'⟩ := own_form h1
  exact h A' c' w' (by simpa [rc] using h1) h2 h3 hr'.max
theorem rc_own_len {w : World} {base : Nat} {e : TypeId} {v : Value} {n : Nat} {xs : List Int} (h : w.ownsRow base e 1 v n (rc xs)) : n = xs.length := by have := h.1; simpa using this.symm
theorem own_base {w : World} {base base' : Nat} {e : TypeId} {size n : Nat} {v : Value} {xs : List Value} (h : w.ownsRow base e size v n xs) (hb : base' ≤ base) : w.ownsRow base' e size v n xs := by
  obtain ⟨h1, h2⟩ := h
  refine ⟨h1, ?_⟩
  rcases h2 with h2 | ⟨g, cap, cur, hv, hg, r⟩
  · exact .inl h2
  · exact .inr ⟨g, cap, cur, hv, Nat.le_trans hb hg, r⟩
theorem own_below {w w' : World} {base : Nat} {e : TypeId} {size n : Nat} {v : Value} {xs : List Value} (h : w.ownsRow base e size v n xs) (hb : Below w.heap.size w w') : w'.ownsRow base e size v n xs :=
  h.kept (row := none) ⟨hb.os, hb.tape, hb.output, hb.size, fun k hk _ => hb.block k hk⟩ (by cases v.ownBlock <;> simp)
theorem below_own {w wr w1 : World} {e : TypeId} {size n : Nat} {v : Value} {xs : List Value} {base : Nat} (hb : Below base w wr) (hle : base ≤ wr.heap.size) (hown : wr.ownsRow base e size v n xs) (hg : wr.grownBy w1 v.ownBlock) : Below base w w1 :=
  hb.grown hg hle (fun k hk => (hown.lt k hk).1)
end Go.Proofs.YtcmjijpofkoogaaGreat
namespace Go.Proofs.YtcmjijpofkoogaaGreat
open Go.RowKit Go.Lib
section
variable {P : Program} {ops : Array Oper} {Q : Exit → Act → World → Prop} {md : Region.Mode} {Le : World → World → Prop}
theorem YieldsIf.weaken {S T : World → Prop} {o : Oper} {v : Value} {a : Act} (h : YieldsIf P ops S o v a) (hT : ∀ w, T w → S w) : YieldsIf P ops T o v a :=
  h.imp (fun ⟨h1, h2⟩ => ⟨h1, fun w hw => h2 w (hT w hw)⟩) id
theorem panic_put (hQ : ∀ c a (d : Tmp) v w, Q (.panic c) (a.put (some d) v) w → Q (.panic c) a w) (c : List PanicEntry) (a : Act) (d : Option Tmp) (v : Value) (w : World)
    (h : Q (.panic c) (a.put d v) w) : Q (.panic c) a w := by
  cases d with
  | none => exact h
  | some d => exact hQ c a d v w h
abbrev LeB (w W : World) : Prop := Below w.heap.size w W
theorem LeB.refl (w : World) : LeB w w := Below.refl _ w
theorem LeB.trans (a b c : World) (h : LeB a b) (k : LeB b c) : LeB a c := Below.trans h (Below.mono k h.size)
theorem LeB.drew (w : World) : LeB w w.drew := (Below.refl _ w).drew
end
theorem Rd.litN (w : World) (B : Nat) (hB : w.heap.size = B) (t : TypeId) (cs : Array Value) (size n : Nat) (hs : cs.size = n * size) (hm : n ≤ maxLen) :
    Rd (w.alloc (.cells cs t)) (fun b => B ≤ b) size (some ⟨B, 0, none⟩) n n cs.toList := by
  subst hB; exact Rd.lit w t cs size n hs hm
end Go.Proofs.YtcmjijpofkoogaaGreat
namespace Go.Proofs.YtcmjijpofkoogaaGreat
open Go.RowKit Go.Lib
abbrev LeG (row : Option Nat) (w W : World) : Prop := w.grownBy W row
theorem LeG.refl (row : Option Nat) (w : World) : LeG row w w := ⟨rfl, rfl, rfl, Nat.le_refl _, fun _ _ _ => rfl⟩
theorem LeG.trans (row : Option Nat) (a b c : World) (h : LeG row a b) (k : LeG row b c) : LeG row a c :=
  ⟨k.os.trans h.os, k.tape.trans h.tape, k.output.trans h.output, Nat.le_trans h.size k.size, fun i hi hne => (k.block i (Nat.lt_of_lt_of_le hi h.size) hne).trans (h.block i hi hne)⟩
theorem LeG.cell {row : Option Nat} {w W : World} (h : LeG row w W) {p : Addr} {v : Value} (hc : w.cell? p = some v) (hp : row ≠ some p.block) : W.cell? p = some v :=
  (World.cell?_of_block (h.block _ (World.block_lt_of_cell? w p hc) (fun e => hp e.symm))).trans hc
section
variable {P : Program} {ops : Array Oper} {Q : Exit → Act → World → Prop} {md : Region.Mode} {Le : World → World → Prop}
end
end Go.Proofs.YtcmjijpofkoogaaGreat
namespace Go.Proofs.YtcmjijpofkoogaaGreat
open Go.RowKit Go.Lib
def widthF (r : Int) : Nat := if r < 0 ∨ 1114111 < r ∨ (55296 ≤ r ∧ r ≤ 57343) then 0 else if r < 128 then 1 else if r < 2048 then 2 else if r < 65536 then 3 else 4
def firstF (l : List UInt8) : Int × Nat := if (decodeL l).1 = 65533 ∧ (decodeL l).2 = 1 then (-1, 1) else (((decodeL l).1 : Int), (decodeL l).2)
def itemsGo : Nat → Nat → List UInt8 → List (Int × Nat × Nat)
  | 0, _, _ => []
  | _ + 1, _, [] => []
  | k + 1, off, b :: t => ((firstF (b :: t)).1, off, (firstF (b :: t)).2) :: itemsGo k (off + (firstF (b :: t)).2) ((b :: t).drop (firstF (b :: t)).2)
def itemsF (l : List UInt8) : List (Int × Nat × Nat) := itemsGo l.length 0 l
def runesF (l : List UInt8) : List Int := (itemsF l).map (·.1)
theorem getD_enc (x : Int) (h : 0 ≤ x ∧ x < 256) : (x.toNat.toUInt8).toNat = x.toNat := by
  show (UInt8.ofNat x.toNat).toNat = _
  rw [UInt8.toNat_ofNat']; omega
theorem enc_width (v : Int) (h : 0 < widthF v) : (encodeRune v).length = widthF v := by
  unfold widthF at h ⊢
  split at h
  · omega
  · rename_i h1
    rw [if_neg h1]
    unfold encodeRune
    rw [List.length_map]
    split
    · rw [encodeRuneZ_one (by omega) (by omega)]; rfl
    · split
      · rw [encodeRuneZ_two (by omega) (by omega)]; rfl
      · split
        · rw [encodeRuneZ_three (by omega)]; rfl
        · rw [encodeRuneZ_four (by omega) (by omega)]; rfl
theorem decode_encode (v : Int) (h : 0 < widthF v) (t : List UInt8) : decodeL (encodeRune v ++ t) = (v.toNat, widthF v) := by
  rw [decodeL_N]
  have hl := enc_width v h
  unfold widthF at h hl ⊢
  split at h
  · omega
  · rename_i h1
    rw [if_neg h1] at hl ⊢
    unfold encodeRune at hl ⊢
    by_cases h2 : v < 128
    · rw [encodeRuneZ_one (by omega) (by omega), if_pos h2]
      simp only [List.map_cons, List.map_nil, List.cons_append, List.nil_append, List.getD_cons_zero]
      rw [getD_enc v (by omega), decodeN, if_pos (by omega)]
    · rw [if_neg h2] at hl ⊢
      by_cases h3 : v < 2048
      · rw [encodeRuneZ_two (by omega) (by omega), if_pos h3]
        simp only [List.map_cons, List.map_nil, List.cons_append, List.nil_append, List.getD_cons_zero, List.getD_cons_succ, List.length_cons]
        rw [getD_enc _ (by omega), getD_enc _ (by omega), decodeN, if_neg (by omega), if_pos (by omega), if_pos (by omega)]
        simp only [Prod.mk.injEq, and_true]
        omega
      · rw [if_neg h3] at hl ⊢
        by_cases h4 : v < 65536
        · rw [encodeRuneZ_three (by omega), if_pos h4]
          simp only [List.map_cons, List.map_nil, List.cons_append, List.nil_append, List.getD_cons_zero, List.getD_cons_succ, List.length_cons]
          rw [getD_enc _ (by omega), getD_enc _ (by omega), getD_enc _ (by omega), decodeN, if_neg (by omega), if_neg (by omega), if_pos (by omega), if_pos (by omega)]
          simp only [Prod.mk.injEq, and_true]
          omega
        · rw [encodeRuneZ_four (by omega) (by omega), if_neg h4]
          simp only [List.map_cons, List.map_nil, List.cons_append, List.nil_append, List.getD_cons_zero, List.getD_cons_succ, List.length_cons]
          rw [getD_enc _ (by omega), getD_enc _ (by omega), getD_enc _ (by omega), getD_enc _ (by omega), decodeN, if_neg (by omega), if_neg (by omega), if_neg (by omega), if_pos (by omega), if_pos (by omega)]
          simp only [Prod.mk.injEq, and_true]
          omega
theorem firstF_enc (v : Int) (h : 0 < widthF v) (t : List UInt8) : firstF (encodeRune v ++ t) = (v, widthF v) := by
  have hd := decode_encode v h t
  have hv : 0 ≤ v := by unfold widthF at h; split at h <;> omega
  rw [firstF, hd]
  simp only
  rw [if_neg]
  · rw [Int.toNat_of_nonneg hv]
  · rintro ⟨h1, h2⟩
    have : v = 65533 := by omega
    subst this
    revert h2
    decide
theorem firstF_pos (l : List UInt8) : 1 ≤ (firstF l).2 := by
  unfold firstF; split
  · exact Nat.le_refl _
  · exact decodeL_width l
theorem firstF_le (l : List UInt8) (h : l ≠ []) : (firstF l).2 ≤ l.length := by
  unfold firstF; split
  · exact List.length_pos_iff.2 h
  · exact decodeL_le l h
theorem firstF_range (l : List UInt8) : -1 ≤ (firstF l).1 ∧ (firstF l).1 ≤ 1114111 := by
  unfold firstF; split
  · exact ⟨by simp, by simp⟩
  · have := decodeL_rune l; refine ⟨?_, ?_⟩ <;> dsimp only <;> omega
theorem firstF_bad (l : List UInt8) (h : (firstF l).1 = -1) (v : Int) (hv : 0 < widthF v) : ¬ ∃ t, l = encodeRune v ++ t := by
  rintro ⟨t, rfl⟩
  rw [firstF_enc v hv] at h
  simp only at h
  subst h
  exact absurd hv (by decide)
theorem firstF_good (l : List UInt8) (hne : l ≠ []) (h : (firstF l).1 ≠ -1) : l.take (firstF l).2 = encodeRune (firstF l).1 := by
  have h' : ¬ ((decodeL l).1 = 65533 ∧ (decodeL l).2 = 1) := fun hh => h (by rw [firstF, if_pos hh])
  have := encode_decode l hne h'
  rw [firstF, if_neg h']
  exact this.symm
theorem itemsGo_nil (k off : Nat) : itemsGo k off [] = [] := by cases k <;> rfl
theorem itemsGo_more (k : Nat) : ∀ (j off : Nat) (l : List UInt8), l.length ≤ k → l.length ≤ j → itemsGo k off l = itemsGo j off l := by
  induction k with
  | zero => intro j off l h1 h2; have : l = [] := List.eq_nil_of_length_eq_zero (by omega); subst this; rw [itemsGo_nil, itemsGo_nil]
  | succ k ih =>
    intro j off l h1 h2
    cases l with
    | nil => rw [itemsGo_nil, itemsGo_nil]
    | cons b t =>
      cases j with
      | zero => simp at h2
      | succ j =>
        simp only [itemsGo]
        have hp := firstF_pos (b :: t)
        rw [ih j _ _ (by rw [List.length_drop]; simp only [List.length_cons] at h1 ⊢; omega) (by rw [List.length_drop]; simp only [List.length_cons] at h2 ⊢; omega)]
theorem itemsGo_step (off : Nat) (l : List UInt8) (h : l ≠ []) : itemsGo l.length off l = ((firstF l).1, off, (firstF l).2) :: itemsGo (l.drop (firstF l).2).length (off + (firstF l).2) (l.drop (firstF l).2) := by
  cases l with
  | nil => exact absurd rfl h
  | cons b t =>
    have hp := firstF_pos (b :: t)
    show itemsGo (t.length + 1) off (b :: t) = _
    simp only [itemsGo]
    rw [itemsGo_more t.length _ _ _ (by rw [List.length_drop]; simp only [List.length_cons]; omega) (Nat.le_refl _)]
end Go.Proofs.YtcmjijpofkoogaaGreat
namespace Go.Proofs.YtcmjijpofkoogaaGreat
open Go.RowKit
end Go.Proofs.YtcmjijpofkoogaaGreat
namespace Go.Proofs.YtcmjijpofkoogaaGreat
open Go.RowKit
def enc8 (r : Int) : List UInt8 := (Utf8.encode r).data.toList
theorem enc8_small (r : Int) (h0 : 0 ≤ r) (h1 : r < 128) : enc8 r = [UInt8.ofNat r.toNat] := by
  have hv : Utf8.valid r = true := by simp [Utf8.valid]; omega
  unfold enc8 Utf8.encode
  simp only [hv, if_true]
  rw [if_pos (by omega)]
end Go.Proofs.YtcmjijpofkoogaaGreat
namespace Go.Proofs.YtcmjijpofkoogaaGreat
open Go.RowKit Go.Lib
set_option maxHeartbeats 400000 in
set_option maxRecDepth 100000 in
theorem Width_any (r : Int) (w : World) : Calls Tryz.prog 140 #[.int .i32 r] w fun e w' => e = .returned (.int .i64 (widthF r)) ∧ w = w' := by
  by_cases h1 : r < 0
  · go_enter Tryz.func140, Tryz.ntmps140
    go_wp2
    go_ret
    exact ⟨ret_int (by rw [widthF, if_pos (by omega)]; rfl), rfl⟩
  · by_cases h2 : 1114111 < r
    · go_enter Tryz.func140, Tryz.ntmps140
      go_wp2
      go_ret
      exact ⟨ret_int (by rw [widthF, if_pos (by omega)]; rfl), rfl⟩
    · by_cases h3 : 55296 ≤ r
      · by_cases h4 : r ≤ 57343
        · go_enter Tryz.func140, Tryz.ntmps140
          go_wp2
          go_ret
          exact ⟨ret_int (by rw [widthF, if_pos (by omega)]; rfl), rfl⟩
        · by_cases h5 : r < 65536
          all_goals
            go_enter Tryz.func140, Tryz.ntmps140
            go_wp2
            go_ret
            exact ⟨ret_int (by rw [widthF, if_neg (by omega), if_neg (by omega), if_neg (by omega)]; first | (rw [if_pos (by omega)]; rfl) | (rw [if_neg (by omega)]; rfl)), rfl⟩
      · by_cases h4 : r < 128
        · go_enter Tryz.func140, Tryz.ntmps140
          go_wp2
          go_ret
          exact ⟨ret_int (by rw [widthF, if_neg (by omega), if_pos (by omega)]; rfl), rfl⟩
        · by_cases h5 : r < 2048
          · go_enter Tryz.func140, Tryz.ntmps140
            go_wp2
            go_ret
            exact ⟨ret_int (by rw [widthF, if_neg (by omega), if_neg (by omega), if_pos (by omega)]; rfl), rfl⟩
          · go_enter Tryz.func140, Tryz.ntmps140
            go_wp2
            go_ret
            exact ⟨ret_int (by rw [widthF, if_neg (by omega), if_neg (by omega), if_neg (by omega), if_pos (by omega)]; rfl), rfl⟩
abbrev bc (l : List UInt8) : List Value := l.map fun b => .int .u8 b.toNat
abbrev itemCells (l : List (Int × Nat × Nat)) : List Value := l.flatMap fun x => [.int .i32 x.1, .int .i64 x.2.1, .int .i64 x.2.2]
theorem Tryz.info223 : (Tryz.prog.info? 223).map (fun i => (i.zero, i.size, i.bytes)) = some (some (.agg #[.int .i32 0, .int .i64 0, .int .i64 0]), 3, 24) := by kernel_rfl
theorem append_items (w : World) {ops : Array Oper} {rest : List Oper} {o : Oper} {a : Act} {Q : Exit → Act → World → Prop} (hgd : o.guard = none) (s x : Operand)
    (ho : o.op = .call { callee := .builtin .append, args := #[s, x], argTypes := #[221, 221] })
    (base : Nat) (v : Value) (n : Nat) (xs : List Value) (hs : a.eval s = v) (hown : w.ownsRow base 223 3 v n xs)
    (S : Nat → Prop) (A : Option Addr) (m c : Nat) (ys : List Value) (hx : a.eval x = .slice A m c) (hr : Rd w S 3 A m c ys) (h1 : ∀ u ∈ ys, u.oneCell' = true)
    (hlen : n + m ≤ 1000000000) (hbase : base ≤ w.heap.size)
    (h : ∀ A' c' w', w'.ownsRow base 223 3 (.slice A' (n + m) c') (n + m) (xs ++ ys) → w.grownBy w' v.ownBlock → ((Value.slice A' (n + m) c').ownBlock = v.ownBlock ∨ (Value.slice A' (n + m) c').ownBlock = some w.heap.size) →
      c' ≤ 9223372036854775807 → wpList Tryz.prog ops Q rest (a.put o.dst (.slice A' (n + m) c')) w') :
    wpList Tryz.prog ops Q (o :: rest) a w := by
  obtain ⟨i0, hi, hz0, hz1, hz2⟩ := info_parts Tryz.info223
  refine wpList_append_rd w hgd s x 221 ho base 223 i0 _ 3 24 Tryz.underlying221 hi hz0 hz1 hz2 rfl (by omega) v n xs hs hown S A m c ys hx hr h1 (by simp only [maxLen]; omega) (by omega) hbase ?_
  intro v' w' h1 h2 h3
  obtain ⟨A', c', rfl, hr'⟩ := own_form h1
  exact h A' c' w' h1 h2 h3 hr'.max
theorem piece_good (s : ByteArray) (at_ : Nat) (hat : at_ < s.size) (h : (Utf8.decode s at_).1 ≠ 65533) : firstF (s.data.toList.drop at_) = (((Utf8.decode s at_).1 : Int), widthF (Utf8.decode s at_).1) := by
  have hne : s.data.toList.drop at_ ≠ [] := by
    intro h0
    have := congrArg List.length h0
    simp at this
    have : s.data.size = s.size := rfl
    omega
  rw [← decodeL_drop] at h ⊢
  have hv := firstF_good (s.data.toList.drop at_) hne
  rw [firstF, if_neg (fun hh => h hh.1)] at hv ⊢
  have h2 := runeLen_decode _ h
  have hw := decodeL_width (s.data.toList.drop at_)
  have hle := decodeL_le _ hne
  refine Prod.ext rfl ?_
  show (decodeL (s.data.toList.drop at_)).2 = _
  generalize (decodeL (s.data.toList.drop at_)).1 = c at h2 ⊢
  generalize (decodeL (s.data.toList.drop at_)).2 = n at h2 hw ⊢
  unfold runeLen at h2
  unfold widthF
  repeat' split at h2
  all_goals (dsimp only; first | omega | ((repeat' split) <;> omega))
theorem piece_repl (s : ByteArray) (at_ : Nat) (hat : at_ < s.size) (h : (Utf8.decode s at_).1 = 65533) :
    firstF (s.data.toList.drop at_) = if (s.data.toList.drop at_).take 3 = [239, 191, 189] then (65533, 3) else (-1, 1) := by
  have hne : s.data.toList.drop at_ ≠ [] := by
    intro h0
    have := congrArg List.length h0
    simp at this
    have : s.data.size = s.size := rfl
    omega
  rw [← decodeL_drop] at h
  generalize s.data.toList.drop at_ = l at h hne ⊢
  split
  · rename_i h3
    have he : encodeRune 65533 = [239, 191, 189] := by decide
    have hl : l = encodeRune 65533 ++ l.drop 3 := by rw [he, ← h3, List.take_append_drop]
    rw [hl, firstF_enc 65533 (by decide)]
    rfl
  · rename_i h3
    by_cases h1 : (decodeL l).2 = 1
    · rw [firstF, if_pos ⟨h, h1⟩]
    · exfalso
      have he := encode_decode l hne (fun hh => h1 hh.2)
      rw [h] at he
      have he2 : encodeRune ((65533 : Nat) : Int) = [239, 191, 189] := by decide
      rw [he2] at he
      have hlen := congrArg List.length he
      have hle := decodeL_le l hne
      rw [List.length_take] at hlen
      have : (decodeL l).2 = 3 := by simp at hlen; omega
      rw [this] at he
      exact h3 he.symm
set_option maxHeartbeats 1000000 in
set_option maxRecDepth 100000 in
theorem piece_any (s : ByteArray) (at_ : Nat) (hat : at_ < s.size) (hs : s.size ≤ 1000000000) (w : World) :
    Calls Tryz.prog 252 #[.string s, .int .i64 at_, .int .i32 (Utf8.decode s at_).1] w fun e w' =>
      e = .returned (.tuple #[.int .i32 (firstF (s.data.toList.drop at_)).1, .int .i64 (firstF (s.data.toList.drop at_)).2]) ∧ w = w' := by
  have hle := decode_le s at_
  by_cases h : (Utf8.decode s at_).1 = 65533
  · have HF := Lib.hid (piece_repl s at_ hat h)
    rw [h]
    by_cases h3 : (s.size : Int) - (at_ : Int) < 3
    · have HN : Hid (firstF (s.data.toList.drop at_) = (-1, 1)) := by
        rw [Hid, HF.out, if_neg]
        intro hh
        have := congrArg List.length hh
        simp at this
        have : s.data.size = s.size := rfl
        omega
      generalize firstF (s.data.toList.drop at_) = p at HN ⊢
      clear h HF
      go_enter Tryz.func252, Tryz.ntmps252
      go_wp2
      go_ret2
      exact ⟨by rw [HN.out]; rfl, rfl⟩
    · have hx : (s.extract at_ (at_ + 3)).toList = (s.data.toList.drop at_).take 3 := by
        rw [ByteArray.toList_eq, extract_data, Nat.add_sub_cancel_left]
      have HW := Lib.hid (Width_any 65533 w)
      have h4 : at_ + 3 ≤ s.size := by omega
      by_cases he : (s.data.toList.drop at_).take 3 = [239, 191, 189]
      · have HN : Hid (firstF (s.data.toList.drop at_) = (65533, 3)) := by rw [Hid, HF.out, if_pos he]
        have hb : ((s.extract at_ (at_ + 3)).toList == [239, 191, 189]) = true := by rw [hx, he]; rfl
        generalize firstF (s.data.toList.drop at_) = p at HN ⊢
        clear h HF hx he
        go_enter Tryz.func252, Tryz.ntmps252
        go_wp2_with fail
        refine HW.out.mono ?_
        rintro e w' ⟨rfl, rfl⟩
        go_wp2
        go_ret2
        exact ⟨by rw [HN.out]; rfl, rfl⟩
      · have HN : Hid (firstF (s.data.toList.drop at_) = (-1, 1)) := by rw [Hid, HF.out, if_neg he]
        have hb : ((s.extract at_ (at_ + 3)).toList == [239, 191, 189]) = false := by rw [hx, beq_eq_false_iff_ne]; exact he
        generalize firstF (s.data.toList.drop at_) = p at HN ⊢
        clear h HF hx he
        go_enter Tryz.func252, Tryz.ntmps252
        go_wp2
        go_ret2
        exact ⟨by rw [HN.out]; rfl, rfl⟩
  · have HN := Lib.hid (piece_good s at_ hat h)
    have hb : (((Utf8.decode s at_).1 : Int) == 65533) = false := by rw [beq_eq_false_iff_ne]; omega
    generalize firstF (s.data.toList.drop at_) = p at HN ⊢
    generalize (Utf8.decode s at_).1 = c at HN hb hle h ⊢
    have HW := Lib.hid (Width_any c w)
    clear h
    go_enter Tryz.func252, Tryz.ntmps252
    go_wp2_with fail
    refine HW.out.mono ?_
    rintro e w' ⟨rfl, rfl⟩
    go_wp2
    go_ret2
    exact ⟨by rw [HN.out]; rfl, rfl⟩
theorem bc_get {l : List UInt8} {k : Nat} {u : Value} (h : (bc l)[k]? = some u) : ∃ h : k < l.length, u = .int .u8 (l[k]).toNat := by
  simp only [bc, List.getElem?_map, Option.map_eq_some_iff] at h
  obtain ⟨a, ha, rfl⟩ := h
  obtain ⟨hk, rfl⟩ := List.getElem?_eq_some_iff.1 ha
  exact ⟨hk, rfl⟩
theorem bc_one (l : List UInt8) : ∀ u ∈ bc l, u.oneCell' = true := by
  intro u hu
  obtain ⟨_, _, rfl⟩ := List.mem_map.1 hu
  rfl
theorem bc_len {w : World} {S : Nat → Prop} {A : Option Addr} {n c : Nat} {l : List UInt8} (h : Rd w S 1 A n c (bc l)) : n = l.length := by have := h.len; simpa using this.symm
theorem run_bytes_string {P : Program} {w : World} {S : Nat → Prop} {A : Option Addr} {n c : Nat} {l : List UInt8} (h : Rd w S 1 A n c (bc l)) (src dst e : TypeId)
    (hs : P.underlying src = some (.slice e)) (he : P.underlying e = some (.int .u8)) (hd : P.underlying dst = some .string) :
    (convert src dst (.slice A n c)).run P w = .ok (.string ⟨l.toArray⟩) w := by
  obtain rfl := bc_len h
  rcases A with _ | ad
  · have := h.nil rfl
    have := h.le
    have : l = [] := List.eq_nil_of_length_eq_zero (by omega)
    subst this
    rw [run_convert_bytes_string w src dst e _ _ _ hs he hd]
    rfl
  · refine run_convert_bytes_back w src dst e ad c l hs he hd fun j hj => ?_
    obtain ⟨b, o, ha, _, hc⟩ := h.at_ (by omega)
    injection ha with ha
    subst ha
    rw [Addr.add_lit]
    exact hc j _ (by simp [bc, hj])
theorem run_string_bytes {P : Program} (w : World) (s : ByteArray) (src dst e : TypeId) (hs : P.underlying src = some .string) (hd : P.underlying dst = some (.slice e)) (he : P.underlying e = some (.int .u8))
    (hlen : s.size ≤ 1000000000) :
    ∃ A c w', (convert src dst (.string s)).run P w = .ok (.slice A s.size c) w' ∧ Rd w' (fun b => w.heap.size ≤ b) 1 A s.size c (bc s.data.toList) ∧ Below w.heap.size w w' ∧ c ≤ 9223372036854775807 := by
  have hge := grownCap_ge w s.size 0 e
  have hmx := grownCap_le_maxLen w s.size 0 e (by unfold maxLen; omega)
  refine ⟨_, _, _, run_bytes_of_string w src dst e s hs hd he, ?_, (Below.refl _ w).drew.alloc (Nat.le_refl _) _, hmx⟩
  have hsz : s.data.toList.length = s.size := by simp
  refine ⟨by simp [bc], hge, hmx, (fun h => by cases h), fun _ => ⟨_, _, rfl, Nat.le_refl _, fun j u hu => ?_⟩⟩
  obtain ⟨hj, rfl⟩ := bc_get hu
  have hj2 : j < s.data.size := by simpa using hj
  rw [Nat.zero_add]
  refine (World.cell?_alloc_mark w.drew (bytesRow s (grownCap w s.size 0 e)) e _ j).trans ?_
  rw [bytesRow, Array.getElem?_append_left (by simpa using hj2)]
  simp only [Array.getElem?_map, Array.getElem?_eq_getElem hj2, Option.map_some, Array.getElem_toList]
theorem itemCells_append (a b : List (Int × Nat × Nat)) : itemCells (a ++ b) = itemCells a ++ itemCells b := by simp [itemCells]
theorem itemCells_one (l : List (Int × Nat × Nat)) : ∀ u ∈ itemCells l, u.oneCell' = true := by
  intro u hu
  simp only [itemCells, List.mem_flatMap, List.mem_cons, List.not_mem_nil, or_false] at hu
  obtain ⟨x, _, rfl | rfl | rfl⟩ := hu <;> rfl
theorem itemCells_len (l : List (Int × Nat × Nat)) : (itemCells l).length = l.length * 3 := by
  induction l with
  | nil => rfl
  | cons a t ih => simp only [itemCells, List.flatMap_cons, List.length_append, List.length_cons, List.length_nil] at ih ⊢; omega
theorem items_len (k : Nat) : ∀ (off : Nat) (l : List UInt8), (itemsGo k off l).length ≤ k := by
  induction k with
  | zero => intro off l; simp [itemsGo]
  | succ k ih =>
    intro off l
    cases l with
    | nil => simp [itemsGo]
    | cons b t => simp only [itemsGo, List.length_cons]; have := ih (off + (firstF (b :: t)).2) ((b :: t).drop (firstF (b :: t)).2); omega
end Go.Proofs.YtcmjijpofkoogaaGreat
namespace Go.Proofs.YtcmjijpofkoogaaGreat
open Go.RowKit
set_option maxHeartbeats 1000000 in
set_option maxRecDepth 100000 in
theorem GrowNil_any (n : Nat) (w : World) (hn : n ≤ 1000000000) :
    Calls Tryz.prog 52 #[.slice none 0 0, .int .i64 n] w fun e w' => ∃ v, e = .returned v ∧ w'.ownsRow w.heap.size 21 1 v 0 (rc []) ∧ Below w.heap.size w w' := by
  obtain ⟨i0, hi, hz0, hz1, hz2⟩ := info_parts Tryz.info21
  rcases Nat.eq_zero_or_pos n with rfl | h0
  · go_enter Tryz.func52, Tryz.ntmps52
    go_wp2
    go_ret
    exact ⟨_, rfl, World.ownsRow_nil _ _ _ _, Below.refl _ _⟩
  · have hrz : ∀ ty, (Builtin.append_ #[24, 3] ty #[.slice none 0 0, .int .i64 (n : Int)]).run Tryz.prog w =
        .ok (.slice (some ⟨w.heap.size, 0, none⟩) n (grownCap w n 0 21)) (w.drew.alloc (.cells (Builtin.zeroCells (Value.int .i32 0).cells n ++ Builtin.zeroCells (Value.int .i32 0).cells (grownCap w n 0 21 - n)) 21)) := fun ty =>
      Lib.run_append_nil_zeros w 24 3 ty 21 i0 _ .i64 .i64 Tryz.underlying24 Tryz.underlying3 hi hz0 n h0 (by omega) (by omega) (by rw [hz2]; omega)
    have hG := grownCap_ge w n 0 21
    have hG63 := grownCap_le_maxLen w n 0 21 (by unfold maxLen; omega)
    have hown : (w.drew.alloc (.cells (Builtin.zeroCells (Value.int .i32 0).cells n ++ Builtin.zeroCells (Value.int .i32 0).cells (grownCap w n 0 21 - n)) 21)).ownsRow w.heap.size 21 1 (.slice (some ⟨w.heap.size, 0, none⟩) 0 (grownCap w n 0 21)) 0 (rc []) :=
      ⟨by simp [rc], .inr ⟨w.heap.size, _, _, rfl, Nat.le_refl _, heap_alloc_new w.drew _, Nat.zero_le _, hG63, by
        simp only [Array.size_append, size_zeroCells]
        have : (Value.int IntKind.i32 0).cells.size = 1 := rfl
        rw [this]; omega, by simp [rc]⟩⟩
    have hG64 : grownCap w n 0 21 ≤ 9223372036854775807 := hG63
    generalize grownCap w n 0 21 = G at hrz hG hG64 hown
    generalize Builtin.zeroCells (Value.int .i32 0).cells n ++ Builtin.zeroCells (Value.int .i32 0).cells (G - n) = Z at hrz hown
    have HOWN := Lib.hid hown
    clear hown hG63 hi hz0 hz1 hz2
    have h2 : ¬ ((n : Int) < 0) := by omega
    go_enter Tryz.func52, Tryz.ntmps52
    go_wp2_with (at_builtin; refine Lib.wpList_append_run _ rfl _ _ _ _ rfl _ _ rfl rfl _ _ (hrz _) ?_)
    go_ret
    exact ⟨_, rfl, HOWN.out, (Below.refl _ w).drew.alloc (Nat.le_refl _) _⟩
def RunesV (w : World) (v : Value) (l : List Int) : Prop := ∃ A n c, v = .slice A n c ∧ Rd w (fun _ => True) 1 A n c (rc l)
theorem RunesV.of_own {w : World} {base : Nat} {e : TypeId} {v : Value} {n : Nat} {l : List Int} (h : w.ownsRow base e 1 v n (rc l)) : RunesV w v l := by
  obtain ⟨A, c, rfl, hr⟩ := own_form h
  exact ⟨A, n, c, rfl, hr.more fun _ _ => trivial⟩
theorem RunesV.of_rd {w : World} {S : Nat → Prop} {A : Option Addr} {n c : Nat} {l : List Int} (h : Rd w S 1 A n c (rc l)) : RunesV w (.slice A n c) l := ⟨A, n, c, rfl, h.more fun _ _ => trivial⟩
theorem RunesV.below {w w' : World} {v : Value} {l : List Int} (h : RunesV w v l) (hb : Below w.heap.size w w') : RunesV w' v l := by
  obtain ⟨A, n, c, rfl, hr⟩ := h
  exact ⟨A, n, c, rfl, hr.below hb⟩
theorem RunesV.alloc {w : World} {v : Value} {l : List Int} (h : RunesV w v l) (o : Obj) : RunesV (w.alloc o) v l := by
  obtain ⟨A, n, c, rfl, hr⟩ := h
  exact ⟨A, n, c, rfl, hr.alloc o⟩
structure RowsV (w : World) (A : Option Addr) (n c : Nat) (ls : List (List Int)) (vs : List Value) : Prop where
  rd : Rd w (fun _ => True) 1 A n c vs
  len : vs.length = ls.length
  each : ∀ (i : Nat) (v : Value) (l : List Int), vs[i]? = some v → ls[i]? = some l → RunesV w v l
theorem RowsV.below {w w' : World} {A : Option Addr} {n c : Nat} {ls : List (List Int)} {vs : List Value} (h : RowsV w A n c ls vs) (hb : Below w.heap.size w w') : RowsV w' A n c ls vs :=
  ⟨h.rd.below hb, h.len, fun i v l h1 h2 => (h.each i v l h1 h2).below hb⟩
def sumLen (ls : List (List Int)) : Nat := (ls.map List.length).sum
theorem sumLen_succ (ls : List (List Int)) (j : Nat) (hj : j < ls.length) : sumLen (ls.take (j + 1)) = sumLen (ls.take j) + ls[j].length := by
  rw [sumLen, List.take_succ_eq_append_getElem hj]
  simp only [sumLen, List.map_append, List.sum_append, List.map_cons, List.map_nil, List.sum_cons, List.sum_nil, Nat.add_zero]
theorem sumLen_le (ls : List (List Int)) (j : Nat) : sumLen (ls.take j) ≤ sumLen ls := by
  have : ls = ls.take j ++ ls.drop j := (List.take_append_drop j ls).symm
  conv => rhs; rw [this]
  simp only [sumLen, List.map_append, List.sum_append]
  omega
theorem flat_succ (ls : List (List Int)) (j : Nat) (hj : j < ls.length) : (ls.take (j + 1)).flatten = (ls.take j).flatten ++ ls[j] := by
  rw [List.take_succ_eq_append_getElem hj, List.flatten_append]
  simp only [List.flatten_cons, List.flatten_nil, List.append_nil]
theorem sumLen_flat (ls : List (List Int)) : ls.flatten.length = sumLen ls := by rw [List.length_flatten, sumLen]
set_option maxHeartbeats 1000000 in
set_option maxRecDepth 100000 in
theorem Concat_any (A : Option Addr) (n c : Nat) (ls : List (List Int)) (vs : List Value) (w : World) (hr : RowsV w A n c ls vs) (hsum : sumLen ls ≤ 1000000000) :
    Calls Tryz.prog 28 #[.slice A n c] w fun e w' => ∃ v, e = .returned v ∧ (∃ n', w'.ownsRow w.heap.size 21 1 v n' (rc ls.flatten)) ∧ Below w.heap.size w w' := by
  have hle := hr.rd.le
  have hmx : c ≤ 9223372036854775807 := hr.rd.max
  have hl : n = ls.length := by have := hr.rd.len; have := hr.len; omega
  subst hl
  have HR := Lib.hid hr
  clear hr
  go_enter Tryz.func28, Tryz.ntmps28
  go_wp2
  go_loopw [3, 11] (fun s i wr => ∃ (j : Nat), j ≤ ls.length ∧ i = .int .i64 j ∧ s = .int .i64 (sumLen (ls.take j) : Nat) ∧ Hid (w = wr)) (fun _ i _ => ls.length - (intOf i).toNat)
  case atStart => exact ⟨0, Nat.zero_le _, rfl, rfl, rfl⟩
  case round =>
    obtain ⟨j, hj, rfl, rfl, HW⟩ := hrel
    have hw := HW.out
    subst hw
    have hs1 := sumLen_le ls j
    by_cases hlt : j < ls.length
    · obtain ⟨b, o, u, rfl, _, hu, hc⟩ := HR.out.rd.one hlt
      obtain ⟨A', n', c', rfl, hrj⟩ := HR.out.each j u ls[j] hu (List.getElem?_eq_getElem hlt)
      have hn' : n' = ls[j].length := by have := hrj.len; simpa using this.symm
      have hs2 := sumLen_le ls (j + 1)
      have hs3 := sumLen_succ ls j hlt
      rw [← hn'] at hs3
      have HS := Lib.hid hs3
      have hs4 : sumLen (ls.take j) + n' ≤ 1000000000 := by omega
      have hc' : c' ≤ 9223372036854775807 := hrj.max
      clear hs3 hs2 hn' hu hrj
      go_wp2
      go_roundw
      case rel => exact ⟨j + 1, by omega, by go_num, by rw [HS.out]; go_num, by first | rfl | exact trivial⟩
      case measure => simp [intOf]; omega
    · have e : ls.take j = ls := List.take_of_length_le (by omega)
      rw [e] at hs1 ⊢
      clear e
      generalize hsz : sumLen ls = sz at hs1 hsum
      have HSZ := Lib.hid hsz
      clear hsz
      go_wp2_with fail
      refine (GrowNil_any sz w hsum).mono ?_
      rintro e w1 ⟨v1, rfl, hown1, hb1⟩
      obtain ⟨A1, c1, rfl, _⟩ := own_form hown1
      have HO1 := Lib.hid hown1
      have HB1 := Lib.hid hb1
      clear hown1 hb1
      go_wp2
      go_loopw [6, 27] (fun v i wr => ∃ (k : Nat), k ≤ ls.length ∧ i = .int .i64 k ∧ Hid (∃ n', wr.ownsRow w.heap.size 21 1 v n' (rc (ls.take k).flatten)) ∧ Hid (Below w.heap.size w wr)) (fun _ i _ => ls.length - (intOf i).toNat)
      case atStart => exact ⟨0, Nat.zero_le _, rfl, ⟨_, by simpa using HO1.out⟩, HB1.out⟩
      case round =>
        obtain ⟨k, hk, rfl, HO, HB⟩ := hrel
        obtain ⟨no, HO⟩ := HO.out
        have hno : no = (ls.take k).flatten.length := rc_own_len HO
        have hno2 : no ≤ 1000000000 := by
          have := sumLen_le ls k
          rw [hno, sumLen_flat]
          have := HSZ.out
          omega
        obtain ⟨Ao, co, rfl, hro⟩ := own_form HO
        have hco : co ≤ 9223372036854775807 := hro.max
        have HO := Lib.hid HO
        have HNO := Lib.hid hno
        clear hro hno
        by_cases hlt2 : k < ls.length
        · obtain ⟨b, o, u, rfl, _, hu, hc⟩ := (HR.out.rd.below HB.out).one hlt2
          obtain ⟨A', n', c', rfl, hrj⟩ := HR.out.each k u ls[k] hu (List.getElem?_eq_getElem hlt2)
          have hs2 := sumLen_le ls (k + 1)
          have hs3 := sumLen_succ ls k hlt2
          have hn' : n' = ls[k].length := by have := hrj.len; simpa using this.symm
          have hlen : no + n' ≤ 1000000000 := by
            have h1 := HNO.out
            have h2 := HSZ.out
            rw [sumLen_flat] at h1
            omega
          have HF := Lib.hid (flat_succ ls k hlt2)
          have HJ := Lib.hid (hrj.below HB.out)
          clear hs2 hs3 hn' hrj hu
          go_wp2_with (first
            | (at_builtin
               refine append_runes _ rfl (.tmp 31) (.tmp 32) rfl w.heap.size _ _ (ls.take k).flatten rfl HO.out _ _ n' _ ls[k] rfl HJ.out hlen HB.out.size ?_
               intro A2 c2 w2 hown2 hg2 _ _
               have HB2 := Lib.hid (below_own HB.out HB.out.size HO.out hg2)
               have HO2 := Lib.hid hown2
               clear hown2 hg2))
          go_roundw
          case rel => exact ⟨k + 1, by omega, by go_num, ⟨_, by rw [HF.out]; exact HO2.out⟩, HB2.out⟩
          case measure => simp [intOf]; omega
        · have e : ls.take k = ls := List.take_of_length_le (by omega)
          rw [e] at HO
          clear e
          go_wp2
          go_ret
          exact ⟨_, rfl, ⟨_, HO.out⟩, HB.out⟩
end Go.Proofs.YtcmjijpofkoogaaGreat
namespace Go.Proofs.YtcmjijpofkoogaaGreat
open Go.RowKit Go.Lib
structure IterAt (w wr : World) (s : ByteArray) (pos : Nat) : Prop where
  blk : wr.heap[w.heap.size]? = some (.stringIter s pos)
  below : Below w.heap.size w wr
theorem IterAt.lt {w wr : World} {s : ByteArray} {pos : Nat} (h : IterAt w wr s pos) : w.heap.size < wr.heap.size := (Array.getElem?_eq_some_iff.1 h.blk).1
def World.iterSet (w : World) (b : Nat) (s : ByteArray) (pos : Nat) : World := { w with heap := w.heap.setIfInBounds b (.stringIter s pos) }
theorem run_next_at {P : Program} {w wr : World} {s : ByteArray} {pos : Nat} (h : IterAt w wr s pos) (ty : TypeId) (hp : pos < s.size) :
    (Instr.next (.pointer (some ⟨w.heap.size, 0, none⟩)) true ty).run P wr = .ok (.tuple #[.bool true, .int .i64 pos, .int .i32 (Utf8.decode s pos).1]) (World.iterSet wr w.heap.size s (pos + (Utf8.decode s pos).2)) := by
  simp only [Instr.next, getObj, setObj, Sem.run_bind, Sem.run, h.blk, Result.andThen, hp, if_true]
  simp [goInt, World.iterSet]
theorem run_next_done {P : Program} {w wr : World} {s : ByteArray} {pos : Nat} (h : IterAt w wr s pos) (ty : TypeId) (hp : ¬ pos < s.size) :
    (Instr.next (.pointer (some ⟨w.heap.size, 0, none⟩)) true ty).run P wr = .ok (.tuple #[.bool false]) wr := by
  simp [Instr.next, getObj, Sem.run, h.blk, hp]
theorem IterAt.set {w wr : World} {s : ByteArray} {pos pos' : Nat} (h : IterAt w wr s pos) : IterAt w (World.iterSet wr w.heap.size s pos') s pos' := by
  have hlt := h.lt
  refine ⟨?_, h.below.trans ⟨rfl, rfl, rfl, ?_, fun k hk => ?_⟩⟩
  · show (wr.heap.setIfInBounds w.heap.size _)[w.heap.size]? = _
    rw [Array.getElem?_setIfInBounds_self_of_lt hlt]
  · show wr.heap.size ≤ (wr.heap.setIfInBounds w.heap.size _).size
    simp
  · show (wr.heap.setIfInBounds w.heap.size _)[k]? = _
    rw [Array.getElem?_setIfInBounds_ne (by omega)]
theorem iterSet_grown (w : World) (b : Nat) (s : ByteArray) (pos : Nat) : w.grownBy (World.iterSet w b s pos) (some b) :=
  ⟨rfl, rfl, rfl, by simp [World.iterSet], fun k _ hne => by
    show (w.heap.setIfInBounds b _)[k]? = _
    rw [Array.getElem?_setIfInBounds_ne (fun e => hne (by rw [e]))]⟩
theorem IterAt.grown {w wr w2 : World} {s : ByteArray} {pos : Nat} {row : Option Nat} (h : IterAt w wr s pos) (hg : wr.grownBy w2 row) (hr : ∀ g, row = some g → w.heap.size < g) : IterAt w w2 s pos :=
  ⟨(hg.block w.heap.size h.lt (fun e => by have := hr _ e.symm; omega)).trans h.blk, h.below.grown hg h.below.size (fun k hk => by have := hr k hk; omega)⟩
theorem IterAt.alloc {w wr : World} {s : ByteArray} {pos : Nat} (h : IterAt w wr s pos) (o : Obj) : IterAt w (wr.alloc o) s pos :=
  ⟨(Below.heap_alloc wr o _ h.lt).trans h.blk, h.below.alloc h.below.size o⟩
theorem IterAt.start (w : World) (s : ByteArray) : IterAt w (w.iter s 0) s 0 := ⟨World.iter_heap w s 0, (Below.refl _ w).alloc (Nat.le_refl _) _⟩
theorem dec_width (s : ByteArray) (pos : Nat) : 1 ≤ (Utf8.decode s pos).2 := by rw [← decodeL_drop]; exact decodeL_width _
theorem first_dec (s : ByteArray) (pos : Nat) : (firstF (s.data.toList.drop pos)).2 = (Utf8.decode s pos).2 := by
  rw [firstF, decodeL_drop]
  split
  · rename_i h; exact h.2.symm
  · rfl
set_option maxHeartbeats 1000000 in
set_option maxRecDepth 100000 in
theorem Items_any (S : Nat → Prop) (A : Option Addr) (n c : Nat) (l : List UInt8) (w : World) (hr : Rd w S 1 A n c (bc l)) (hlen : l.length ≤ 300000000) :
    Calls Tryz.prog 178 #[.slice A n c] w fun e w' => ∃ v, e = .returned v ∧ (∃ n', w'.ownsRow w.heap.size 223 3 v n' (itemCells (itemsF l))) ∧ Below w.heap.size w w' := by
  have hcv := run_bytes_string hr 41 9 5 Tryz.underlying41 Tryz.underlying5 Tryz.underlying9
  obtain rfl := bc_len hr
  obtain ⟨s, hs⟩ : ∃ s : ByteArray, s = ⟨l.toArray⟩ := ⟨_, rfl⟩
  rw [← hs] at hcv
  have hsz : s.size = l.length := by rw [hs]; simp [ByteArray.size]
  have hsl : s.data.toList = l := by rw [hs]
  have HS := Lib.hid hs
  have hsb : s.size ≤ 300000000 := by omega
  have HSL := Lib.hid hsl
  have HSZ := Lib.hid hsz
  clear hs hsl hsz hr
  go_enter Tryz.func178, Tryz.ntmps178
  go_wp2
  go_loopw [3] (fun v wr => ∃ (pos : Nat) (o : List (Int × Nat × Nat)), Hid (IterAt w wr s pos) ∧ Hid (itemsF l = o ++ itemsGo (l.drop pos).length pos (l.drop pos)) ∧ o.length ≤ pos ∧
      Hid (∃ n', wr.ownsRow (w.heap.size + 1) 223 3 v n' (itemCells o)) ∧ pos ≤ s.size)
    (fun _ wr => s.size - wr.iterPos w.heap.size)
  case atStart => exact ⟨0, [], IterAt.start w s, by simp [Hid, itemsF], Nat.le_refl _, ⟨0, World.ownsRow_nil _ _ _ _⟩, Nat.zero_le _⟩
  case round =>
    obtain ⟨pos, o, HI, HS2, hol, HO, hpos⟩ := hrel
    obtain ⟨no, HO⟩ := HO.out
    have hno : no = o.length := by have := HO.1; rw [itemCells_len] at this; omega
    obtain ⟨Ao, co, rfl, hro⟩ := own_form HO
    have hco : co ≤ 9223372036854775807 := hro.max
    have HO := Lib.hid HO
    have hnob : no ≤ 300000000 := by omega
    have HNO := Lib.hid hno
    clear hro hno
    by_cases hlt : pos < s.size
    · have hnx : ∀ ty, (Instr.next (.pointer (some ⟨w.heap.size, 0, none⟩)) true ty).run Tryz.prog wr = _ := fun ty => run_next_at HI.out ty hlt
      have HI2 := Lib.hid (HI.out.set (pos' := pos + (Utf8.decode s pos).2))
      have HO2 := Lib.hid (HO.out.kept (iterSet_grown wr w.heap.size s (pos + (Utf8.decode s pos).2)) (by
        cases hb : Value.ownBlock (.slice Ao no co) with
        | none => exact .inl rfl
        | some g => right; have := (HO.out.lt g hb).1; intro h; injection h; omega))
      generalize hW2 : World.iterSet wr w.heap.size s (pos + (Utf8.decode s pos).2) = w2 at hnx HI2 HO2
      have HFD := Lib.hid (first_dec s pos)
      have HP := Lib.hid (piece_any s pos hlt (by omega) w2)
      have hdw := dec_width s pos
      have hfr := firstF_range (s.data.toList.drop pos)
      have HMS : Hid (pos + (Utf8.decode s pos).2 ≤ s.size) := by
        rw [Hid, ← HFD.out]
        have hne : s.data.toList.drop pos ≠ [] := by
          intro h0
          have := congrArg List.length h0
          simp at this
          have : s.data.size = s.size := rfl
          omega
        have := firstF_le _ hne
        rw [List.length_drop] at this
        have : s.data.toList.length = s.size := by simp
        omega
      have HST : Hid (itemsF l = (o ++ [((firstF (s.data.toList.drop pos)).1, pos, (firstF (s.data.toList.drop pos)).2)]) ++ itemsGo (l.drop (pos + (Utf8.decode s pos).2)).length (pos + (Utf8.decode s pos).2) (l.drop (pos + (Utf8.decode s pos).2))) := by
        have hne : l.drop pos ≠ [] := by
          intro h0
          have := congrArg List.length h0
          simp at this
          have := HSZ.out
          omega
        rw [Hid, HS2.out, itemsGo_step pos _ hne, List.drop_drop, HSL.out, ← HSL.out, HFD.out]
        simp
      generalize hd2 : (Utf8.decode s pos).2 = dw at hnx HI2 HFD hdw HMS HST hW2
      generalize firstF (s.data.toList.drop pos) = p at HP HFD HST hfr
      generalize (Utf8.decode s pos).1 = dr at hnx HP
      clear hW2 hd2
      go_wp2_with fail
      refine HP.out.mono ?_
      rintro e w3 ⟨rfl, rfl⟩
      go_wp2_with (first
        | (at_builtin
           refine append_items _ rfl (.tmp 24) (.tmp 29) rfl (w.heap.size + 1) _ _ (itemCells o) rfl (HO2.out.alloc _) _ _ 1 1 (itemCells [(p.1, pos, p.2)]) rfl (Rd.lit w2 _ #[.int .i32 p.1, .int .i64 pos, .int .i64 p.2] 3 1 rfl (by decide)) (itemCells_one _) (by omega) (by have := HI2.out.lt; simp; omega) ?_
           intro A4 c4 w4 hown4 hg4 _ _
           have HI4 := Lib.hid ((HI2.out.alloc (.cells #[.int .i32 p.1, .int .i64 pos, .int .i64 p.2] 223)).grown hg4 (fun g hg => (HO2.out.lt g hg).1))
           have HO4 := Lib.hid hown4
           clear hown4 hg4))
      go_roundw
      case rel =>
        refine ⟨pos + dw, _, HI4.out, HST.out, ?_, ⟨_, by rw [itemCells_append]; exact HO4.out⟩, HMS.out⟩
        simp; omega
      case measure =>
        simp [World.iterPos, HI4.out.blk, HI.out.blk]
        omega
    · have hnx : ∀ ty, (Instr.next (.pointer (some ⟨w.heap.size, 0, none⟩)) true ty).run Tryz.prog wr = _ := fun ty => run_next_done HI.out ty hlt
      have HE : Hid (itemsF l = o) := by
        have : l.drop pos = [] := List.drop_eq_nil_of_le (by have := HSZ.out; omega)
        rw [Hid, HS2.out, this, itemsGo_nil, List.append_nil]
      go_wp2
      go_ret
      exact ⟨_, rfl, ⟨_, by rw [HE.out]; exact own_base HO.out (by omega)⟩, HI.out.below⟩
end Go.Proofs.YtcmjijpofkoogaaGreat
namespace Go.Proofs.YtcmjijpofkoogaaGreat
open Go.RowKit Go.Lib
def BytesV (w : World) (v : Value) (l : List UInt8) : Prop := ∃ A n c, v = .slice A n c ∧ Rd w (fun _ => True) 1 A n c (bc l)
theorem BytesV.of_own {w : World} {base : Nat} {e : TypeId} {v : Value} {n : Nat} {l : List UInt8} (h : w.ownsRow base e 1 v n (bc l)) : BytesV w v l := by
  obtain ⟨A, c, rfl, hr⟩ := own_form h
  exact ⟨A, n, c, rfl, hr.more fun _ _ => trivial⟩
theorem BytesV.of_rd {w : World} {S : Nat → Prop} {A : Option Addr} {n c : Nat} {l : List UInt8} (h : Rd w S 1 A n c (bc l)) : BytesV w (.slice A n c) l := ⟨A, n, c, rfl, h.more fun _ _ => trivial⟩
theorem BytesV.below {w w' : World} {v : Value} {l : List UInt8} (h : BytesV w v l) (hb : Below w.heap.size w w') : BytesV w' v l := by
  obtain ⟨A, n, c, rfl, hr⟩ := h
  exact ⟨A, n, c, rfl, hr.below hb⟩
def runeF (r : Int) : List UInt8 := if widthF r = 0 then [] else encodeRune r
end Go.Proofs.YtcmjijpofkoogaaGreat
namespace Go.Proofs.YtcmjijpofkoogaaGreat
open Go.RowKit Go.Lib
def leadN : Nat → Int
  | 2 => 192
  | 3 => 224
  | 4 => 240
  | _ => 0
def byteAt (l : List UInt8) (i : Nat) : Int := (l.getD i 0).toNat
def vp (l : List UInt8) (n : Nat) : Nat → Int
  | 0 => byteAt l 0 - leadN n
  | j + 1 => 64 * vp l n j + byteAt l (j + 1) - 128
def hit (l : List UInt8) (n : Nat) : Prop := 0 ≤ vp l n (n - 1) ∧ vp l n (n - 1) ≤ 1114111 ∧ runeF (vp l n (n - 1)) = l.take n
end Go.Proofs.YtcmjijpofkoogaaGreat
namespace Go.Proofs.YtcmjijpofkoogaaGreat
open Go.RowKit Go.Lib
end Go.Proofs.YtcmjijpofkoogaaGreat
namespace Go.Proofs.YtcmjijpofkoogaaGreat
open Go.RowKit Go.Lib
theorem itemCells_get : ∀ (o : List (Int × Nat × Nat)) (k : Nat), (h : k < o.length) →
    (itemCells o)[k * 3]? = some (.int .i32 o[k].1) ∧ (itemCells o)[k * 3 + 1]? = some (.int .i64 o[k].2.1) ∧ (itemCells o)[k * 3 + 2]? = some (.int .i64 o[k].2.2)
  | [], _, h => absurd h (by simp)
  | x :: t, 0, _ => ⟨rfl, rfl, rfl⟩
  | x :: t, k + 1, h => by
    have ih := itemCells_get t k (by simpa using h)
    have e : ∀ i, (itemCells (x :: t))[(k + 1) * 3 + i]? = (itemCells t)[k * 3 + i]? := fun i => by
      show (Value.int .i32 x.1 :: .int .i64 x.2.1 :: .int .i64 x.2.2 :: itemCells t)[(k + 1) * 3 + i]? = _
      rw [show (k + 1) * 3 + i = (k * 3 + i) + 1 + 1 + 1 by omega]
      rfl
    refine ⟨(e 0).trans ih.1, (e 1).trans ih.2.1, (e 2).trans ih.2.2⟩
theorem Rd.item {w : World} {S : Nat → Prop} {n c : Nat} {A : Option Addr} {o : List (Int × Nat × Nat)} (h : Rd w S 3 A n c (itemCells o)) {k : Nat} (hk : k < o.length) :
    ∃ b u, A = some ⟨b, u, none⟩ ∧ S b ∧ w.cell? ⟨b, u + k * 3, none⟩ = some (.int .i32 o[k].1) ∧ w.cell? ⟨b, u + k * 3 + 1, none⟩ = some (.int .i64 o[k].2.1) ∧ w.cell? ⟨b, u + k * 3 + 2, none⟩ = some (.int .i64 o[k].2.2) := by
  have hl := h.len
  rw [itemCells_len] at hl
  obtain ⟨b, u, e, hb, hc⟩ := h.at_ (by omega)
  obtain ⟨h1, h2, h3⟩ := itemCells_get o k hk
  exact ⟨b, u, e, hb, hc _ _ h1, hc _ _ h2, hc _ _ h3⟩
theorem runesF_len (l : List UInt8) : (runesF l).length ≤ l.length := by
  rw [runesF, List.length_map]
  exact items_len _ _ _
set_option maxHeartbeats 1000000 in
set_option maxRecDepth 100000 in
theorem NRunes_any (s : ByteArray) (w : World) (hlen : s.size ≤ 300000000) :
    Calls Tryz.prog 274 #[.string s] w fun e w' => ∃ v, e = .returned v ∧ (∃ n', w'.ownsRow w.heap.size 21 1 v n' (rc (runesF s.data.toList))) ∧ Below w.heap.size w w' := by
  obtain ⟨A0, c0, w1, hcv, hr, hb, hc0⟩ := run_string_bytes (P := Tryz.prog) w s 9 41 5 Tryz.underlying9 Tryz.underlying41 Tryz.underlying5 (by omega)
  have hll : s.data.toList.length = s.size := by simp
  generalize s.data.toList = l at hr hll ⊢
  have HR := Lib.hid hr
  have HB1 := Lib.hid hb
  clear hr hb
  go_enter Tryz.func274, Tryz.ntmps274
  go_wp2_with fail
  refine (Items_any _ A0 s.size c0 l w1 HR.out (by omega)).mono ?_
  rintro e w2 ⟨v, rfl, ⟨n', hown⟩, hb2⟩
  obtain ⟨A, c, rfl, hro⟩ := own_form hown
  have hn : n' = (itemsF l).length := by have := hown.1; rw [itemCells_len] at this; omega
  have hil : (itemsF l).length ≤ l.length := items_len _ _ _
  have hco : c ≤ 9223372036854775807 := hro.max
  have hle := hro.le
  have HRF : Hid (runesF l = (itemsF l).map (·.1)) := rfl
  have HRO := Lib.hid hro
  have HB2 := Lib.hid (HB1.out.trans (hb2.mono HB1.out.size))
  clear hro hb2 hown
  generalize itemsF l = its at hn hil HRF HRO
  subst hn
  go_wp2
  go_loopw [3, 10] (fun v i wr => ∃ (k : Nat), k ≤ its.length ∧ i = .int .i64 k ∧ Hid (∃ n', wr.ownsRow w2.heap.size 21 1 v n' (rc ((its.take k).map (·.1)))) ∧ Hid (Below w2.heap.size w2 wr))
    (fun _ i _ => its.length - (intOf i).toNat)
  case atStart => exact ⟨0, Nat.zero_le _, rfl, ⟨0, by simpa using World.ownsRow_nil w2 w2.heap.size 21 1⟩, Below.refl _ _⟩
  case round =>
    obtain ⟨k, hk, rfl, HO, HB⟩ := hrel
    obtain ⟨no, HO⟩ := HO.out
    have hno : no = k := by have := rc_own_len HO; simp at this; omega
    subst hno
    obtain ⟨Ao, co, rfl, hro⟩ := own_form HO
    have hco2 : co ≤ 9223372036854775807 := hro.max
    have HO := Lib.hid HO
    clear hro
    by_cases hlt : no < its.length
    · obtain ⟨b, u, rfl, hbb, hc0, hc1, hc2⟩ := (HRO.out.below HB.out).item hlt
      have htk : (its.take (no + 1)).map (·.1) = (its.take no).map (·.1) ++ [its[no].1] := by rw [List.take_succ_eq_append_getElem hlt, List.map_append]; rfl
      have HTK := Lib.hid htk
      clear htk
      generalize its[no].1 = r0 at hc0 HTK
      generalize its[no].2.1 = r1 at hc1
      generalize its[no].2.2 = r2 at hc2
      go_wp2_with (first
        | (at_builtin
           refine append_runes _ rfl (.tmp 14) (.tmp 17) rfl w2.heap.size _ _ _ rfl ((HO.out.alloc _).alloc _) _ _ 1 1 [r0] rfl (Rd.litN _ (wr.heap.size + 1) (by simp) _ #[.int .i32 r0] 1 1 rfl (by decide)) (by omega) (by have := HB.out.size; simp; omega) ?_
           intro A4 c4 w4 hown4 hg4 _ _
           have hb4 := below_own ((HB.out.alloc HB.out.size _).alloc (by have := HB.out.size; simp; omega) _) (by have := HB.out.size; simp; omega) ((HO.out.alloc _).alloc _) hg4
           have HB4 := Lib.hid hb4
           have HO4 := Lib.hid hown4
           clear hown4 hg4 hb4))
      go_roundw
      case rel => exact ⟨no + 1, by omega, by go_num, ⟨_, by rw [HTK.out]; exact HO4.out⟩, HB4.out⟩
      case measure => simp [intOf]; omega
    · have e : its.take no = its := List.take_of_length_le (by omega)
      have HE : Hid (runesF l = (its.take no).map (·.1)) := by rw [Hid, HRF.out, e]
      go_wp2
      go_ret
      exact ⟨_, rfl, ⟨_, by rw [HE.out]; exact own_base HO.out (by have := HB2.out.size; omega)⟩, HB2.out.trans (HB.out.mono HB2.out.size)⟩
end Go.Proofs.YtcmjijpofkoogaaGreat
namespace Go.Proofs.YtcmjijpofkoogaaGreat
open Go.RowKit
def isSpace (r : Int) : Bool := r == 32 || r == 9 || r == 10 || r == 13
set_option maxHeartbeats 400000 in
theorem Space_any (r : Int) (w : World) : Calls Tryz.prog 101 #[.int .i32 r] w fun e w' => e = .returned (.bool (isSpace r)) ∧ w = w' := by
  go_enter Tryz.func101, Tryz.ntmps101
  go_wp2
  all_goals (go_ret; exact ⟨ret_bool (by simp [isSpace, *]), rfl⟩)
theorem eql_is (fn : Fn) (a b : Array Value) (w : World) : (binOp .eql 195 (.func fn a b) .nilFunc).run Tryz.prog w = .ok (.bool false) w := by kernel_rfl
theorem neq_is (fn : Fn) (a b : Array Value) (w : World) : (binOp .neq 195 (.func fn a b) .nilFunc).run Tryz.prog w = .ok (.bool true) w := by kernel_rfl
def runF (p : Int → Bool) (l : List Int) : Int → Nat := fun from_ => if from_ < 0 ∨ (l.length : Int) < from_ then 0 else ((l.drop from_.toNat).takeWhile p).length
theorem takeWhile_at {p : Int → Bool} (l : List Int) (k : Nat) (hk : k < l.length) (hp : p l[k] = false) (h : ∀ j, (hj : j < k) → p (l[j]'(by omega)) = true) : (l.takeWhile p).length = k := by
  induction l generalizing k with
  | nil => simp at hk
  | cons a t ih =>
    cases k with
    | zero => simp at hp; simp [hp]
    | succ k =>
      have h0 : p a = true := h 0 (by omega)
      simp only [List.takeWhile_cons, h0, if_true, List.length_cons]
      rw [ih k (by simpa using hk) (by simpa using hp) (fun j hj => by have := h (j + 1) (by omega); simpa using this)]
theorem takeWhile_all {p : Int → Bool} (l : List Int) (h : ∀ j, (hj : j < l.length) → p l[j] = true) : (l.takeWhile p).length = l.length := by
  induction l with
  | nil => rfl
  | cons a t ih =>
    have h0 : p a = true := h 0 (by simp)
    simp only [List.takeWhile_cons, h0, if_true, List.length_cons]
    rw [ih (fun j hj => by have := h (j + 1) (by simp; omega); simpa using this)]
theorem takeWhile_eq_all (p : Int → Bool) (l : List Int) : ((l.takeWhile p).length == l.length) = l.all p := by
  induction l with
  | nil => rfl
  | cons a t ih =>
    cases h : p a with
    | true => simpa [List.takeWhile_cons, h] using ih
    | false => simp [h]
set_option maxHeartbeats 1000000 in
set_option maxRecDepth 100000 in
theorem Run_any (S : Nat → Prop) (A : Option Addr) (n c : Nat) (l : List Int) (from_ : Int) (g : Nat) (caps : Array Value) (p : Int → Bool) (w : World)
    (eg : ∀ args w, (callFunc g args).run Tryz.prog w = .ok (.enter g args) w)
    (hr : Rd w S 1 A n c (rc l)) (hp : PredOk Tryz.prog g caps p w) :
    Calls Tryz.prog 100 #[.slice A n c, .int .i64 from_, .func (.func g) #[] caps] w fun e w' => e = .returned (.int .i64 (runF p l from_)) ∧ Below w.heap.size w w' := by
  have hl : n = l.length := by have := hr.len; simpa using this.symm
  have hle := hr.le
  have hmx := hr.max
  have hmx : c ≤ 9223372036854775807 := hmx
  subst hl
  have heq := eql_is (.func g) #[] caps
  by_cases h1 : from_ < 0
  · go_enter Tryz.func100, Tryz.ntmps100
    go_wp2
    go_ret
    exact ⟨ret_int (by simp [runF, h1]), Below.refl _ _⟩
  · by_cases h2 : (l.length : Int) < from_
    · go_enter Tryz.func100, Tryz.ntmps100
      go_wp2
      go_ret
      exact ⟨ret_int (by simp [runF, h2]), Below.refl _ _⟩
    · obtain ⟨k, rfl⟩ := Int.eq_ofNat_of_zero_le (show 0 ≤ from_ by omega)
      have hk : k ≤ l.length := by omega
      obtain ⟨A', hr2, hsl⟩ := hr.cutL Tryz.underlying24 (fun _ => by simp [go_sem]) hk (P := Tryz.prog)
      have hrest : (rc l).drop (k * 1) = rc (l.drop k) := by simp [rc]
      rw [hrest] at hr2
      have HF : Hid (runF p l (k : Int) = ((l.drop k).takeWhile p).length) := Lib.hid (by simp [runF, h1, h2])
      have HR := Lib.hid hr2
      have HP := Lib.hid hp
      have hd1 : decide ((k : Int) < 0) = false := by simp
      have hd2 : decide (l.length < k) = false := by simp; omega
      clear h1 h2 hrest hr hr2 hp
      go_enter Tryz.func100, Tryz.ntmps100
      go_wp2
      obtain ⟨m, hm⟩ : ∃ m, m = l.drop k := ⟨_, rfl⟩
      have hml : m.length = l.length - k := by rw [hm]; simp
      rw [← hm] at HR HF
      clear hm
      have HML := Lib.hid hml
      clear hml
      go_loopw [25] (fun i wr => ∃ j : Nat, j ≤ l.length - k ∧ i = .int .i64 j ∧ Hid (Below w.heap.size w wr) ∧ Hid (∀ q, q < j → ∀ h : q < m.length, p m[q] = true)) (fun i _ => l.length - (intOf i).toNat)
      case atStart => exact ⟨0, Nat.zero_le _, rfl, Below.refl _ _, fun q hq => absurd hq (by omega)⟩
      case round =>
        obtain ⟨j, hj, rfl, HB, HQ⟩ := hrel
        by_cases hlt : j < l.length - k
        · obtain ⟨b, o, u, rfl, _, hu, hc⟩ := (HR.out.below HB.out).one hlt
          obtain ⟨hjm, rfl⟩ := rc_get hu
          clear hu
          have hcall := HP.out wr m[j] HB.out
          cases hq : p m[j] with
          | true =>
            rw [hq] at hcall
            have HCALL := Lib.hid hcall
            have HQ1 := Lib.hid hq
            clear hq hcall
            generalize m[j] = r at hc HCALL
            go_wp2_with (go_at_fn g; refine HCALL.out.mono ?_; rintro e w' ⟨rfl, hb'⟩)
            go_roundw
            case rel => exact ⟨j + 1, by omega, by go_num, below_all HB.out hb', fun q hq h => by
              rcases Nat.lt_succ_iff_lt_or_eq.1 hq with h1 | h1
              · exact HQ.out q h1 h
              · subst h1; exact HQ1.out⟩
            case measure => simp [intOf]; omega
          | false =>
            rw [hq] at hcall
            have HCALL := Lib.hid hcall
            have HQ1 := Lib.hid hq
            clear hq hcall
            generalize m[j] = r at hc HCALL
            go_wp2_with (go_at_fn g; refine HCALL.out.mono ?_; rintro e w' ⟨rfl, hb'⟩)
            go_ret
            refine ⟨ret_int ?_, below_all HB.out hb'⟩
            rw [HF.out, takeWhile_at m j hjm HQ1.out (fun q hq => HQ.out q hq (by omega))]
        · go_wp2
          go_ret
          refine ⟨ret_int ?_, HB.out⟩
          have hm := HML.out
          rw [HF.out, takeWhile_all m (fun q hq => HQ.out q (by omega) hq)]
          omega
theorem All_any (S : Nat → Prop) (A : Option Addr) (n c : Nat) (l : List Int) (g : Nat) (caps : Array Value) (p : Int → Bool) (w : World)
    (eg : ∀ args w, (callFunc g args).run Tryz.prog w = .ok (.enter g args) w)
    (hr : Rd w S 1 A n c (rc l)) (hp : PredOk Tryz.prog g caps p w) :
    Calls Tryz.prog 239 #[.slice A n c, .func (.func g) #[] caps] w fun e w' => e = .returned (.bool (l.all p)) ∧ Below w.heap.size w w' := by
  have hl : n = l.length := by have := hr.len; simpa using this.symm
  have hle := hr.le
  have hmx : c ≤ 9223372036854775807 := hr.max
  subst hl
  have heq := neq_is (.func g) #[] caps
  have HC := Lib.hid (Run_any S A l.length c l 0 g caps p w eg hr hp)
  clear hr hp
  go_enter Tryz.func239, Tryz.ntmps239
  go_wp2_with (go_at_call 100; refine HC.out.mono ?_; rintro e w' ⟨rfl, hb'⟩)
  go_ret
  refine ⟨ret_bool ?_, hb'⟩
  have h := takeWhile_eq_all p l
  have e0 : runF p l 0 = (l.takeWhile p).length := by
    simp only [runF, Int.toNat_zero, List.drop_zero]
    rw [if_neg (by omega)]
  rw [e0, ← h]
  rw [Bool.eq_iff_iff]
  simp only [beq_iff_eq]
  omega
abbrev spanCells (sp : List (Int × Int)) : List Value := sp.flatMap fun x => [.int .i32 x.1, .int .i32 x.2]
def inSp (r : Int) (sp : List (Int × Int)) : Bool := sp.any fun x => decide (x.1 ≤ r) && decide (r ≤ x.2)
theorem spanCells_get (sp : List (Int × Int)) (j : Nat) (hj : j < sp.length) : (spanCells sp)[j * 2]? = some (.int .i32 sp[j].1) ∧ (spanCells sp)[j * 2 + 1]? = some (.int .i32 sp[j].2) := by
  induction sp generalizing j with
  | nil => simp at hj
  | cons a t ih =>
    cases j with
    | zero => simp [spanCells]
    | succ j =>
      have := ih j (by simpa using hj)
      have e1 : (j + 1) * 2 = j * 2 + 2 := by omega
      rw [e1]
      simpa [spanCells] using this
theorem inSp_succ (r : Int) (sp : List (Int × Int)) (j : Nat) (hj : j < sp.length) :
    inSp r (sp.take (j + 1)) = (inSp r (sp.take j) || (decide (sp[j].1 ≤ r) && decide (r ≤ sp[j].2))) := by
  simp only [inSp, List.take_succ_eq_append_getElem hj, List.any_append]
  simp
theorem inSp_hit (r : Int) (sp : List (Int × Int)) (j : Nat) (hj : j < sp.length) (h1 : sp[j].1 ≤ r) (h2 : r ≤ sp[j].2) : inSp r sp = true := by
  simp only [inSp, List.any_eq_true]
  exact ⟨sp[j], List.getElem_mem hj, by simp [h1, h2]⟩
set_option maxHeartbeats 1000000 in
set_option maxRecDepth 100000 in
theorem in_any (S : Nat → Prop) (A : Option Addr) (n c : Nat) (r : Int) (sp : List (Int × Int)) (w : World) (hr : Rd w S 2 A n c (spanCells sp)) (hn : n = sp.length) :
    Calls Tryz.prog 228 #[.int .i32 r, .slice A n c] w fun e w' => e = .returned (.bool (inSp r sp)) ∧ Below w.heap.size w w' := by
  have hle := hr.le
  have hmx : c ≤ 9223372036854775807 := hr.max
  subst hn
  have HR := Lib.hid hr
  clear hr
  go_enter Tryz.func228, Tryz.ntmps228
  go_wp2
  go_loopw [9] (fun i wr => ∃ j : Nat, j ≤ sp.length ∧ i = .int .i64 j ∧ Hid (Below w.heap.size w wr) ∧ Hid (inSp r (sp.take j) = false)) (fun i _ => sp.length - (intOf i).toNat)
  case atStart => exact ⟨0, Nat.zero_le _, rfl, Below.refl _ _, rfl⟩
  case round =>
    obtain ⟨j, hj, rfl, HB, HQ⟩ := hrel
    by_cases hlt : j < sp.length
    · obtain ⟨b, o, rfl, _, hcs⟩ := (HR.out.below HB.out).at_ (by omega)
      obtain ⟨g0, g1⟩ := spanCells_get sp j hlt
      have hc0 := hcs _ _ g0
      have hc1 : wr.cell? ⟨b, o + j * 2 + 1, none⟩ = _ := hcs _ _ g1
      clear g0 g1 hcs
      generalize e0 : sp[j].1 = lo at hc0
      generalize e1 : sp[j].2 = hi at hc1
      have HS := Lib.hid (inSp_succ r sp j hlt)
      rw [e0, e1] at HS
      have HN := Lib.hid (inSp_hit r sp j hlt)
      rw [e0, e1] at HN
      clear e0 e1
      go_wp2
      · go_ret
        exact ⟨ret_bool (by rw [HN.out (by assumption) (by assumption)]), (HB.out.alloc HB.out.size _).trans (Below.refl _ _)⟩
      · go_roundw
        case rel =>
          have h : hi < r := by assumption
          exact ⟨j + 1, by omega, by go_num, HB.out.alloc HB.out.size _, by rw [Hid, HS.out, HQ.out]; simp; omega⟩
        case measure => simp [intOf]; omega
      · go_roundw
        case rel =>
          have h : ¬ lo ≤ r := by assumption
          exact ⟨j + 1, by omega, by go_num, HB.out.alloc HB.out.size _, by rw [Hid, HS.out, HQ.out]; simp; omega⟩
        case measure => simp [intOf]; omega
    · have e : sp.take j = sp := List.take_of_length_le (by omega)
      rw [e] at HQ
      clear e
      go_wp2
      go_ret
      exact ⟨ret_bool HQ.out.symm, HB.out⟩
end Go.Proofs.YtcmjijpofkoogaaGreat
namespace Go.Proofs.YtcmjijpofkoogaaGreat
open Go.RowKit
def charSp : List (Int × Int) := [(0x20, 0xD7FF), (0x9, 0xA), (0xD, 0xD), (0xE000, 0xFFFD), (0x10000, 0x10FFFF)]
def startSp : List (Int × Int) := [(97, 122), (65, 90), (58, 58), (95, 95), (0xC0, 0xD6), (0xD8, 0xF6), (0xF8, 0x2FF), (0x370, 0x37D),
  (0x37F, 0x1FFF), (0x200C, 0x200D), (0x2070, 0x218F), (0x2C00, 0x2FEF), (0x3001, 0xD7FF), (0xF900, 0xFDCF), (0xFDF0, 0xFFFD), (0x10000, 0xEFFFF)]
def moreSp : List (Int × Int) := [(48, 57), (45, 46), (0xB7, 0xB7), (0x300, 0x36F), (0x203F, 0x2040)]
def isChar (r : Int) : Bool := inSp r charSp
def isNameStart (r : Int) : Bool := inSp r startSp
def isNameChar (r : Int) : Bool := isNameStart r || inSp r moreSp
set_option maxHeartbeats 400000 in
set_option maxRecDepth 100000 in
theorem Char_any (r : Int) (w : World) : Calls Tryz.prog 164 #[.int .i32 r] w fun e w' => e = .returned (.bool (isChar r)) ∧ Below w.heap.size w w' := by
  go_enter Tryz.func164, Tryz.ntmps164
  go_wp2_with fail
  refine (in_any _ _ 5 5 r charSp _ (Rd.lit w _ _ 2 5 rfl (by decide)) rfl).mono ?_
  rintro e w' ⟨rfl, hb⟩
  go_wp2
  go_ret
  exact ⟨rfl, below_all ((Below.refl _ _).alloc (Nat.le_refl _) _) hb⟩
set_option maxHeartbeats 400000 in
set_option maxRecDepth 100000 in
theorem NameStart_any (r : Int) (w : World) : Calls Tryz.prog 159 #[.int .i32 r] w fun e w' => e = .returned (.bool (isNameStart r)) ∧ Below w.heap.size w w' := by
  go_enter Tryz.func159, Tryz.ntmps159
  go_wp2_with fail
  refine (in_any _ _ 16 16 r startSp _ (Rd.lit w _ _ 2 16 rfl (by decide)) rfl).mono ?_
  rintro e w' ⟨rfl, hb⟩
  go_wp2
  go_ret
  exact ⟨rfl, below_all ((Below.refl _ _).alloc (Nat.le_refl _) _) hb⟩
set_option maxHeartbeats 400000 in
set_option maxRecDepth 100000 in
theorem NameChar_any (r : Int) (w : World) : Calls Tryz.prog 160 #[.int .i32 r] w fun e w' => e = .returned (.bool (isNameChar r)) ∧ Below w.heap.size w w' := by
  have HN := Lib.hid (NameStart_any r w)
  cases hq : isNameStart r with
  | true =>
    rw [hq] at HN
    have HI : Hid (isNameChar r = true) := by rw [Hid, isNameChar, hq]; rfl
    clear hq
    go_enter Tryz.func160, Tryz.ntmps160
    go_wp2_with (go_at_call 159; refine HN.out.mono ?_; rintro e w' ⟨rfl, hb⟩)
    go_ret
    exact ⟨ret_bool HI.out.symm, hb⟩
  | false =>
    rw [hq] at HN
    have HI : Hid (isNameChar r = inSp r moreSp) := by rw [Hid, isNameChar, hq]; rfl
    clear hq
    go_enter Tryz.func160, Tryz.ntmps160
    go_wp2_with (go_at_call 159; refine HN.out.mono ?_; rintro e w' ⟨rfl, hb⟩)
    refine (in_any _ _ 5 5 r moreSp _ (Rd.lit w' _ _ 2 5 rfl (by decide)) rfl).mono ?_
    rintro e w2 ⟨rfl, hb2⟩
    go_wp2
    go_ret
    exact ⟨ret_bool HI.out.symm, below_all (hb.alloc hb.size _) hb2⟩
def digitF (r : Int) : Int × Bool := if r < 48 ∨ 57 < r then (0, false) else (r - 48, true)
def hexF (r : Int) : Int × Bool := if 97 ≤ r ∧ r ≤ 102 then (r - 97 + 10, true) else if 65 ≤ r ∧ r ≤ 70 then (r - 65 + 10, true) else digitF r
set_option maxHeartbeats 400000 in
set_option maxRecDepth 100000 in
theorem Digit_any (r : Int) (w : World) : Calls Tryz.prog 290 #[.int .i32 r] w fun e w' => e = .returned (.tuple #[.int .i64 (digitF r).1, .bool (digitF r).2]) ∧ w = w' := by
  by_cases h1 : r < 48
  · go_enter Tryz.func290, Tryz.ntmps290
    go_wp2
    go_ret2
    exact ⟨ret_ib (if_pos (.inl h1)), rfl⟩
  · by_cases h2 : 57 < r
    · go_enter Tryz.func290, Tryz.ntmps290
      go_wp2
      go_ret2
      exact ⟨ret_ib (if_pos (.inr h2)), rfl⟩
    · go_enter Tryz.func290, Tryz.ntmps290
      go_wp2
      go_ret2
      exact ⟨ret_ib (if_neg (by omega)), rfl⟩
set_option maxHeartbeats 400000 in
set_option maxRecDepth 100000 in
theorem Hex_any (r : Int) (w : World) : Calls Tryz.prog 291 #[.int .i32 r] w fun e w' => e = .returned (.tuple #[.int .i64 (hexF r).1, .bool (hexF r).2]) ∧ w = w' := by
  have HD := Lib.hid (Digit_any r w)
  by_cases h1 : 97 ≤ r ∧ r ≤ 102
  · obtain ⟨h2, h3⟩ := h1
    go_enter Tryz.func291, Tryz.ntmps291
    go_wp2
    go_ret2
    exact ⟨ret_ib (if_pos ⟨h2, h3⟩), rfl⟩
  · by_cases h2 : 65 ≤ r ∧ r ≤ 70
    · obtain ⟨h3, h4⟩ := h2
      have h5 : ¬ 97 ≤ r := by omega
      clear h1
      go_enter Tryz.func291, Tryz.ntmps291
      go_wp2
      go_ret2
      exact ⟨ret_ib (by rw [hexF, if_neg (by omega), if_pos ⟨h3, h4⟩]), rfl⟩
    · have HF : Hid (hexF r = digitF r) := by simp [Hid, hexF, h1, h2]
      generalize hexF r = z at HF ⊢
      generalize digitF r = y at HD HF
      by_cases h3 : 97 ≤ r
      · have h4 : ¬ r ≤ 102 := by omega
        have h5 : 65 ≤ r := by omega
        have h6 : ¬ r ≤ 70 := by omega
        clear h1 h2
        go_enter Tryz.func291, Tryz.ntmps291
        go_wp2_with (go_at_call 290; refine HD.out.mono ?_; rintro e w' ⟨rfl, rfl⟩)
        go_ret2
        exact ⟨ret_ib HF.out, rfl⟩
      · by_cases h5 : 65 ≤ r
        · have h6 : ¬ r ≤ 70 := by omega
          clear h1 h2
          go_enter Tryz.func291, Tryz.ntmps291
          go_wp2_with (go_at_call 290; refine HD.out.mono ?_; rintro e w' ⟨rfl, rfl⟩)
          go_ret2
          exact ⟨ret_ib HF.out, rfl⟩
        · clear h1 h2
          go_enter Tryz.func291, Tryz.ntmps291
          go_wp2_with (go_at_call 290; refine HD.out.mono ?_; rintro e w' ⟨rfl, rfl⟩)
          go_ret2
          exact ⟨ret_ib HF.out, rfl⟩
end Go.Proofs.YtcmjijpofkoogaaGreat
namespace Go.Proofs.YtcmjijpofkoogaaGreat
open Go.RowKit Go.Lib
end Go.Proofs.YtcmjijpofkoogaaGreat
namespace Go.Proofs.YtcmjijpofkoogaaGreat
open Go.RowKit Go.Lib
theorem Rd.rune {w : World} {S : Nat → Prop} {n c : Nat} {A : Option Addr} {l : List Int} (h : Rd w S 1 A n c (rc l)) {k : Nat} (hk : k < l.length) :
    ∃ b o, A = some ⟨b, o, none⟩ ∧ w.cell? ⟨b, o + k, none⟩ = some (.int .i32 l[k]) := by
  have hl := h.len
  obtain ⟨b, o, u, e, _, hu, hc⟩ := h.one (k := k) (by simp at hl; omega)
  obtain ⟨_, rfl⟩ := rc_get hu
  exact ⟨b, o, e, hc⟩
theorem Rd.rlen {w : World} {S : Nat → Prop} {n c : Nat} {A : Option Addr} {l : List Int} (h : Rd w S 1 A n c (rc l)) : n = l.length := by have := h.len; simpa using this.symm
theorem NameChar_ok (w : World) : PredOk Tryz.prog 160 #[] isNameChar w := fun W r _ => NameChar_any r W
theorem eg_NameChar : ∀ args w, (callFunc 160 args).run Tryz.prog w = .ok (.enter 160 args) w := enters_of Tryz.func160 (by kernel_rfl) rfl
def leadF (l : List Int) (k : Nat) : Nat := match l[k]? with
  | none => 0
  | some r => if isNameStart r then ((l.drop k).takeWhile isNameChar).length else 0
set_option maxHeartbeats 1000000 in
set_option maxRecDepth 100000 in
theorem NLead_any (S : Nat → Prop) (A : Option Addr) (n c : Nat) (l : List Int) (k : Nat) (w : World) (hr : Rd w S 1 A n c (rc l)) (hk : k ≤ 1000000000) :
    Calls Tryz.prog 102 #[.slice A n c, .int .i64 k] w fun e w' => e = .returned (.int .i64 (leadF l k)) ∧ Below w.heap.size w w' := by
  obtain rfl := hr.rlen
  have hle := hr.le
  have hmx : c ≤ 9223372036854775807 := hr.max
  have HR := Lib.hid hr
  clear hr
  by_cases hlt : k < l.length
  · obtain ⟨b, o, rfl, hc0⟩ := HR.out.rune hlt
    have hkl : ¬ (k : Int) ≥ (l.length : Int) := by omega
    have HS := fun w => Lib.hid (NameStart_any l[k] w)
    have HL : Hid (leadF l k = if isNameStart l[k] then ((l.drop k).takeWhile isNameChar).length else 0) := by rw [Hid, leadF, List.getElem?_eq_getElem hlt]
    have HF : Hid (runF isNameChar l k = ((l.drop k).takeWhile isNameChar).length) := by rw [Hid, runF, if_neg (by omega), Int.toNat_natCast]
    generalize l[k] = r at hc0 HS HL
    cases hs : isNameStart r with
    | true =>
      rw [hs] at HS HL
      go_enter Tryz.func102, Tryz.ntmps102
      go_wp2_with (first
        | (go_at_call 159; refine (HS _).out.mono ?_; rintro e w' ⟨rfl, hb⟩)
        | (go_at_call 100; refine (Run_any S _ l.length c l k _ #[] isNameChar w' eg_NameChar (HR.out.below hb) (NameChar_ok w')).mono ?_; rintro e w2 ⟨rfl, hb2⟩))
      go_ret
      exact ⟨ret_int (by rw [HL.out, HF.out]; rfl), hb.trans (hb2.mono hb.size)⟩
    | false =>
      rw [hs] at HS HL
      go_enter Tryz.func102, Tryz.ntmps102
      go_wp2_with (go_at_call 159; refine (HS _).out.mono ?_; rintro e w' ⟨rfl, hb⟩)
      go_ret
      exact ⟨ret_int (by rw [HL.out]; rfl), hb⟩
  · have hkl : (k : Int) ≥ (l.length : Int) := by omega
    have HL : Hid (leadF l k = 0) := by rw [Hid, leadF, List.getElem?_eq_none (by omega)]
    go_enter Tryz.func102, Tryz.ntmps102
    go_wp2
    go_ret
    exact ⟨ret_int (by rw [HL.out]; rfl), Below.refl _ _⟩
def nameF (l : List UInt8) : Bool := decide (0 < (runesF l).length) && (leadF (runesF l) 0 == (runesF l).length)
set_option maxHeartbeats 1000000 in
set_option maxRecDepth 100000 in
theorem NName_any (s : ByteArray) (w : World) (hlen : s.size ≤ 300000000) :
    Calls Tryz.prog 213 #[.string s] w fun e w' => e = .returned (.bool (nameF s.data.toList)) ∧ Below w.heap.size w w' := by
  have HRU := Lib.hid (NRunes_any s w hlen)
  have hll : (runesF s.data.toList).length ≤ 300000000 := Nat.le_trans (runesF_len _) (by simpa using hlen)
  have HN : Hid (nameF s.data.toList = (decide (0 < (runesF s.data.toList).length) && (leadF (runesF s.data.toList) 0 == (runesF s.data.toList).length))) := rfl
  generalize nameF s.data.toList = q at HN ⊢
  generalize runesF s.data.toList = l at HRU HN hll
  go_enter Tryz.func213, Tryz.ntmps213
  go_wp2_with fail
  refine HRU.out.mono ?_
  rintro e w1 ⟨v, rfl, ⟨n', hown⟩, hb⟩
  obtain ⟨A, c, rfl, hro⟩ := own_form hown
  obtain rfl := hro.rlen
  have hle := hro.le
  have hmx : c ≤ 9223372036854775807 := hro.max
  have HO := Lib.hid hro
  have HB := Lib.hid hb
  clear hro hown hb
  have HL := Lib.hid (NLead_any _ A l.length c l 0 w1 HO.out (by omega))
  by_cases h0 : 0 < l.length
  · have h0' : (0 : Int) < (l.length : Int) := by omega
    generalize leadF l 0 = m at HL HN
    go_wp2_with (go_at_call 102; refine HL.out.mono ?_; rintro e w2 ⟨rfl, hb2⟩)
    go_ret
    refine ⟨ret_bool ?_, HB.out.trans (hb2.mono HB.out.size)⟩
    rw [HN.out, decide_eq_true h0, Bool.true_and, Bool.eq_iff_iff]
    simp only [beq_iff_eq]
    omega
  · have h0' : ¬ (0 : Int) < (l.length : Int) := by omega
    go_wp2
    go_ret
    refine ⟨ret_bool ?_, HB.out⟩
    rw [HN.out, decide_eq_false h0]; rfl
end Go.Proofs.YtcmjijpofkoogaaGreat
namespace Go.Proofs.YtcmjijpofkoogaaGreat
open Go.RowKit Go.Lib
def bi (l : List UInt8) : List Int := l.map fun b => (b.toNat : Int)
theorem getD_at {l : List Int} {k : Nat} (h : k < l.length) : l.getD k 0 = l[k] := by simp [List.getD, h]
end Go.Proofs.YtcmjijpofkoogaaGreat
namespace Go.Proofs.YtcmjijpofkoogaaGreat
open Go.RowKit Go.Lib
abbrev IterIn (wr : World) (ib : Nat) (s : ByteArray) (pos : Nat) : Prop := wr.heap[ib]? = some (.stringIter s pos)
theorem IterIn.lt {wr : World} {ib : Nat} {s : ByteArray} {pos : Nat} (h : IterIn wr ib s pos) : ib < wr.heap.size := (Array.getElem?_eq_some_iff.1 h).1
theorem IterIn.set {wr : World} {ib : Nat} {s : ByteArray} {pos pos' : Nat} (h : IterIn wr ib s pos) : IterIn (World.iterSet wr ib s pos') ib s pos' := by
  have hlt := IterIn.lt h
  show (wr.heap.setIfInBounds ib _)[ib]? = _
  rw [Array.getElem?_setIfInBounds_self_of_lt hlt]
theorem IterIn.grown {wr w2 : World} {ib : Nat} {s : ByteArray} {pos : Nat} {row : Option Nat} (h : IterIn wr ib s pos) (hg : wr.grownBy w2 row) (hr : row ≠ some ib) : IterIn w2 ib s pos :=
  (hg.block ib (IterIn.lt h) (fun e => hr e.symm)).trans h
theorem IterIn.alloc {wr : World} {ib : Nat} {s : ByteArray} {pos : Nat} (h : IterIn wr ib s pos) (o : Obj) : IterIn (wr.alloc o) ib s pos := (Below.heap_alloc wr o _ (IterIn.lt h)).trans h
end Go.Proofs.YtcmjijpofkoogaaGreat
namespace Go.Proofs.YtcmjijpofkoogaaGreat
open Go.RowKit Go.Lib
end Go.Proofs.YtcmjijpofkoogaaGreat
namespace Go.Proofs.YtcmjijpofkoogaaGreat
open Go.RowKit Go.Lib
end Go.Proofs.YtcmjijpofkoogaaGreat
namespace Go.Proofs.YtcmjijpofkoogaaGreat
open Go.RowKit Go.Lib
end Go.Proofs.YtcmjijpofkoogaaGreat
namespace Go.Proofs.YtcmjijpofkoogaaGreat
open Go.RowKit Go.Lib
theorem RunesV.lit (w : World) (B : Nat) (hB : w.heap.size = B) (t : TypeId) (l : List Int) (n : Nat) (hn : l.length = n) (hm : n ≤ maxLen) (cs : Array Value) (hcs : cs.toList = rc l) : RunesV (w.alloc (.cells cs t)) (.slice (some ⟨B, 0, none⟩) n n) l := by
  subst hn
  refine .of_rd (S := fun b => B ≤ b) ?_
  have := Rd.litN w B hB t cs 1 l.length (by have := congrArg List.length hcs; simpa using this) hm
  rwa [hcs] at this
theorem RunesV.len {w : World} {v : Value} {l : List Int} (h : RunesV w v l) : ∃ A c, v = .slice A l.length c ∧ Rd w (fun _ => True) 1 A l.length c (rc l) := by
  obtain ⟨A, n, c, rfl, hr⟩ := h
  obtain rfl := hr.rlen
  exact ⟨A, c, rfl, hr⟩
theorem RowsV.lit (w : World) (B : Nat) (hB : w.heap.size = B) (t : TypeId) (vs : List Value) (ls : List (List Int)) (n : Nat) (hn : vs.length = n) (hl : vs.length = ls.length) (hm : n ≤ maxLen)
    (h : ∀ (i : Nat) (v : Value) (l : List Int), vs[i]? = some v → ls[i]? = some l → RunesV w v l) (cs : Array Value) (hcs : cs.toList = vs) : RowsV (w.alloc (.cells cs t)) (some ⟨B, 0, none⟩) n n ls vs := by
  subst hcs
  refine ⟨?_, hl, fun i v l h1 h2 => (h i v l h1 h2).alloc _⟩
  subst hn
  exact (Rd.litN w B hB t cs 1 cs.toList.length (by simp) hm).more fun _ _ => trivial
theorem Char_ok (w : World) : PredOk Tryz.prog 164 #[] isChar w := fun W r _ => Char_any r W
theorem eg_Char : ∀ args w, (callFunc 164 args).run Tryz.prog w = .ok (.enter 164 args) w := enters_of Tryz.func164 (by kernel_rfl) rfl
end Go.Proofs.YtcmjijpofkoogaaGreat
namespace Go.Proofs.YtcmjijpofkoogaaGreat
open Go.RowKit Go.Lib
theorem bt {a b c : World} (h : Below a.heap.size a b) (k : Below b.heap.size b c) : Below a.heap.size a c := h.trans (k.mono h.size)
theorem ba (w : World) (o : Obj) : Below w.heap.size w (w.alloc o) := (Below.refl _ w).alloc (Nat.le_refl _) _
end Go.Proofs.YtcmjijpofkoogaaGreat
namespace Go.Proofs.YtcmjijpofkoogaaGreat
open Go.RowKit Go.Lib
theorem cell_keep {w1 w2 : World} {p : Addr} {v : Value} (hb : Below w1.heap.size w1 w2) (h : w1.cell? p = some v) : w2.cell? p = some v :=
  (World.cell?_of_block (hb.block _ (World.block_lt_of_cell? w1 p h))).trans h
theorem box_cell (w : World) (cs : Array Value) (t : TypeId) (k : Nat) {u : Value} (h : cs[k]? = some u) : (w.alloc (.cells cs t)).cell? ⟨w.heap.size, k, none⟩ = some u := by
  rw [World.cell?_alloc_at _ _ _ _ rfl]; exact h
theorem Rd.apart {w w' : World} {B base n c m : Nat} {A : Option Addr} {xs ys : List Value} {e : TypeId} {size : Nat} {v : Value} (h : Rd w (fun b => b < B) 1 A n c xs) (hown : w.ownsRow base e size v m ys) (hB : B ≤ base) (hg : w.grownBy w' v.ownBlock) :
    Rd w' (fun b => b < B) 1 A n c xs :=
  h.grown hg fun g hg hb => by
    have := (hown.lt g hg).1
    have hb : g < B := hb
    omega
end Go.Proofs.YtcmjijpofkoogaaGreat
namespace Go.Proofs.YtcmjijpofkoogaaGreat
open Go.RowKit
end Go.Proofs.YtcmjijpofkoogaaGreat
namespace Go.Proofs.YtcmjijpofkoogaaGreat
open Go.RowKit
theorem Space_ok (w : World) : PredOk Tryz.prog 101 #[] isSpace w := fun W r _ => (Space_any r W).mono fun _ _ ⟨h1, h2⟩ => ⟨h1, h2 ▸ Below.refl _ _⟩
theorem eg_Space : ∀ args w, (callFunc 101 args).run Tryz.prog w = .ok (.enter 101 args) w := enters_of Tryz.func101 (by kernel_rfl) rfl
end Go.Proofs.YtcmjijpofkoogaaGreat
namespace Go.Proofs.YtcmjijpofkoogaaGreat
open Go.RowKit Go.Lib
abbrev PairL := List (ByteArray × List Int)
def pairCells : PairL → List Value → List Value
  | p :: ps, v :: vs => .string p.1 :: v :: pairCells ps vs
  | _, _ => []
theorem pairCells_take : ∀ (ps : PairL) (vs : List Value) (k : Nat), (pairCells ps vs).take (k * 2) = pairCells (ps.take k) (vs.take k)
  | _, _, 0 => by simp [pairCells]
  | [], _, k + 1 => by simp [pairCells]
  | _ :: _, [], k + 1 => by simp [pairCells]
  | p :: ps, v :: vs, k + 1 => by
    have ih := pairCells_take ps vs k
    rw [show (k + 1) * 2 = k * 2 + 1 + 1 by omega]
    simp [pairCells, ih]
structure PairsV (w : World) (S : Nat → Prop) (A : Option Addr) (n c : Nat) (ps : PairL) (vs : List Value) : Prop where
  rd : Rd w S 2 A n c (pairCells ps vs)
  len : vs.length = ps.length
  each : ∀ (k : Nat) (h : k < ps.length) (h2 : k < vs.length), RunesV w vs[k] ps[k].2
theorem PairsV.below {w w' : World} {S : Nat → Prop} {A : Option Addr} {n c : Nat} {ps : PairL} {vs : List Value} (h : PairsV w S A n c ps vs) (hb : Below w.heap.size w w') : PairsV w' S A n c ps vs :=
  ⟨h.rd.below hb, h.len, fun k h1 h2 => (h.each k h1 h2).below hb⟩
theorem PairsV.take {w : World} {S : Nat → Prop} {A : Option Addr} {n c : Nat} {ps : PairL} {vs : List Value} (h : PairsV w S A n c ps vs) {k : Nat} (hk : k ≤ n) : PairsV w S A k c (ps.take k) (vs.take k) := by
  refine ⟨by rw [← pairCells_take]; exact h.rd.take hk, by simp [h.len], fun j h1 h2 => ?_⟩
  rw [List.getElem_take, List.getElem_take]
  exact h.each j _ _
end Go.Proofs.YtcmjijpofkoogaaGreat
namespace Go.Proofs.YtcmjijpofkoogaaGreat
open Go.RowKit Go.Lib
theorem bb {B : Nat} {a b c : World} (h : Below B a b) (k : Below b.heap.size b c) (hB : B ≤ b.heap.size) : Below B a c := h.trans (k.mono hB)
end Go.Proofs.YtcmjijpofkoogaaGreat
