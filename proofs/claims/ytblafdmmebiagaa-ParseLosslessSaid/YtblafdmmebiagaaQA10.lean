/-
  Parts of the proof, joined: Da Kid KidB Gr. Conditions: as each theorem says.
-/
import Derived.Test.YtblafdmmebiagaaQA09
import Derived.Shelf.Abstract
namespace Go.Proofs.Ytblafdmmebiagaa
open Go.RowKit Go.Lib
def byteA (x : UInt8) : AV := .val (.int .u8 x.toNat)
def runeA (r : Int) : AV := .val (.int .i32 r)
def intA (n : Int) : AV := .val (.int .i64 n)
def bytesA (b : List UInt8) : List AV := b.map byteA
def runesA (l : List Int) : List AV := l.map runeA
def intsA (l : List Int) : List AV := l.map intA
theorem getA {α : Type} (f : α → AV) {l : List α} {i : Int} (h0 : 0 ≤ i) (h1 : i < l.length) (d : α) : (l.map f)[i.toNat]?.getD .dead = f (l[i.toNat]?.getD d) := by
  have : i.toNat < l.length := by omega
  simp [this]
theorem bytes_len (l : List UInt8) : (bytesA l).length = l.length := by simp [bytesA]
theorem runes_len (l : List Int) : (runesA l).length = l.length := by simp [runesA]
theorem ints_len (l : List Int) : (intsA l).length = l.length := by simp [intsA]
theorem runes_app (a b : List Int) : runesA (a ++ b) = runesA a ++ runesA b := by simp [runesA]
theorem ints_app (a b : List Int) : intsA (a ++ b) = intsA a ++ intsA b := by simp [intsA]
theorem ints_one (n : Int) : intsA [n] = [.val (.int .i64 n)] := rfl
theorem runes_at {l : List Int} {i : Int} (h0 : 0 ≤ i) (h1 : i < l.length) : (runesA l)[i.toNat]?.getD .dead = .val (.int .i32 (l[i.toNat]?.getD 0)) := getA runeA h0 h1 0
theorem ints_at {l : List Int} {i : Int} (h0 : 0 ≤ i) (h1 : i < l.length) : (intsA l)[i.toNat]?.getD .dead = .val (.int .i64 (l[i.toNat]?.getD 0)) := getA intA h0 h1 0
theorem inR64 (n : Int) : std.inR .i64 n ↔ (-9223372036854775808 ≤ n ∧ n ≤ 9223372036854775807) := Iff.rfl
theorem inR32 (n : Int) : std.inR .i32 n ↔ (-2147483648 ≤ n ∧ n ≤ 2147483647) := Iff.rfl
def Len {α : Type} (xs : List α) (n : Int) : Prop := n = xs.length
theorem Len.eq {α : Type} {xs : List α} {n : Int} (h : Len xs n) : n = (xs.length : Int) := h
theorem exLen {α : Type} (xs : List α) : ∃ n, Len xs n := ⟨_, rfl⟩
def cs0 : Nat → List AV → List Ob → Option (AV × List Ob) := fun _ _ _ => none
theorem BytesClone_b (xs : List AV) (hn : xs.length ≤ 1000000000) : BCall Try.prog 48 [.slc 1 xs] [] (.slc 1 xs) [] := by
  refine bcall_of (cs := cs0) (ord := fun _ => .nil) tyOk (by kernel_rfl) Try.func48 rfl (enters_of Try.func48 (by kernel_rfl) rfl) (Nat.le_of_ble_eq_true rfl) (by kernel_rfl) (by kernel_rfl) ?_
  intro w0 g0
  generalize hp : std = p
  generalize hT : aexec p tys (cs0) _ _ _ _ = T
  cbv at hT
  subst hT
  simp only [Tree.ok, RoundOk, Bool.false_eq_true, Bool.true_eq_false, false_implies, true_implies, and_true, true_and]
  subst hp
  refine ⟨fun h => .pure rfl ?_, ?_, .pure rfl (.inl rfl)⟩
  · have h : xs = [] := h
    subst h
    exact .inr (.inl ⟨rfl, _, rfl⟩)
  · show 0 + xs.length ≤ 1000000000
    omega
theorem CloneB_b (xs : List AV) (hn : xs.length ≤ 1000000000) : BCall Try.prog 99 [.slc 1 xs] [] (.slc 1 xs) [] := by
  refine bcall_of (cs := cs0) (ord := fun _ => .nil) tyOk (by kernel_rfl) Try.func99 rfl (enters_of Try.func99 (by kernel_rfl) rfl) (Nat.le_of_ble_eq_true rfl) (by kernel_rfl) (by kernel_rfl) ?_
  intro w0 g0
  generalize hp : std = p
  generalize hT : aexec p tys (cs0) _ _ _ _ = T
  cbv at hT
  subst hT
  simp only [Tree.ok, RoundOk, Bool.false_eq_true, Bool.true_eq_false, false_implies, true_implies, and_true, true_and]
  subst hp
  refine ⟨fun h => .pure rfl ?_, ?_, .pure rfl (.inl rfl)⟩
  · have h : xs = [] := h
    subst h
    exact .inr (.inl ⟨rfl, _, rfl⟩)
  · show 0 + xs.length ≤ 1000000000
    omega
theorem CloneI_b (xs : List AV) (hn : xs.length ≤ 1000000000) : BCall Try.prog 40 [.slc 1 xs] [] (.slc 1 xs) [] := by
  refine bcall_of (cs := cs0) (ord := fun _ => .nil) tyOk (by kernel_rfl) Try.func40 rfl (enters_of Try.func40 (by kernel_rfl) rfl) (Nat.le_of_ble_eq_true rfl) (by kernel_rfl) (by kernel_rfl) ?_
  intro w0 g0
  generalize hp : std = p
  generalize hT : aexec p tys (cs0) _ _ _ _ = T
  cbv at hT
  subst hT
  simp only [Tree.ok, RoundOk, Bool.false_eq_true, Bool.true_eq_false, false_implies, true_implies, and_true, true_and]
  subst hp
  refine ⟨fun h => .pure rfl ?_, ?_, .pure rfl (.inl rfl)⟩
  · have h : xs = [] := h
    subst h
    exact .inr (.inl ⟨rfl, _, rfl⟩)
  · show 0 + xs.length ≤ 1000000000
    omega
end Go.Proofs.Ytblafdmmebiagaa
namespace Go.Proofs.Ytblafdmmebiagaa
open Go.RowKit Go.Lib
section
variable {w : World} {g : Gh} {ob : List Ob}
def Gh.kid (g : Gh) (w : World) (id : Nat) (b : Option Nat) (n : Nat) : Gh where
  A b' o := g.A b' o ∨ (b = some b' ∧ o < n)
  G b' := if b = some b' then some id else g.G b'
  loc := g.loc
  sub b' := if b = some b' then true else g.sub b'
theorem kid_get (M : Mem w g ob) {id ep i : Nat} {xs : List AV} (h : ob[id]? = some (.row subT 2 false ep xs)) {b c : Nat} (hv : RowV w g id subT 2 (.slice (some ⟨b, 0, none⟩) xs.length c) xs)
    {a u : AV} (hx : xs[i]? = some (.agg [a, u])) {us : List AV} (hu : u = .slc 1 us ∨ (u = .val (.slice none 0 0) ∧ us = [])) :
    ∃ y zs, w.cell? ⟨b, i * 2 + 1, none⟩ = some y ∧ w.ownsRow 0 kidT 1 y us.length zs ∧ y.oneCell' = true ∧ Alike w g.A zs (flatA us) ∧ (∀ x ∈ us, x.cells.length = 1) ∧ ∀ b', y.ownBlock = some b' → g.G b' = some id ∧ g.sub b' = true ∧ (∀ o, us.length ≤ o → ¬ g.A b' o) ∧ b' < w.heap.size := by
  obtain ⟨ys, ho, hG, hal, hw, hs1, hs2⟩ := hv
  have hil := lt_of_some hx
  have hfl := flat_len xs hw
  have hj : i * 2 + 1 < ys.length := by rw [hal.1, hfl]; omega
  have hyj := List.getElem?_eq_getElem hj
  have hcell := ho.cells (g := b) rfl _ _ hyj
  rw [Addr.add_mid, Nat.zero_add] at hcell
  have huj : (flatA xs)[i * 2 + 1]? = some u := by
    rw [flat_get xs hw i _ hx 1 (by omega)]; rfl
  have hrel := hal.2 _ _ _ hyj huj
  generalize ys[i * 2 + 1] = y at hyj hcell hrel
  obtain ⟨⟨k, zs, h1, h2⟩, h3⟩ := hs2 rfl _ _ hyj (by omega)
  have hone := hrel.one
  -- its length, and its cells by content
  have key : k = us.length ∧ Alike w g.A zs (flatA us) ∧ ∀ x ∈ us, x.cells.length = 1 := by
    rcases hu with rfl | ⟨rfl, rfl⟩
    · cases hrel with
      | nil =>
        rcases h1.2 with ⟨_, h4⟩ | ⟨b', cap, cur, h4, _⟩
        · subst h4
          have : zs = [] := List.eq_nil_of_length_eq_zero (by have := h1.1; omega)
          subst this
          exact ⟨rfl, Alike.nil, fun x hx => by cases hx⟩
        · cases h4
      | slc b' o c' _ _ f hc hm hw' hcl hrl =>
        rcases h1.2 with ⟨h4, _⟩ | ⟨b2, cap, cur, h4, h5⟩
        · cases h4
        · cases h4
          refine ⟨rfl, ?_, hw'⟩
          have hfl2 := flat_len us hw'
          have hzl : zs.length = us.length * 1 := h1.1
          refine ⟨by rw [hzl, hfl2], fun j y' u' hy' hu' => ?_⟩
          have e1 := h1.cells (g := b') rfl j y' hy'
          rw [Addr.add_mid, Nat.zero_add] at e1
          have e2 := (hcl j u' hu').2
          rw [Nat.zero_add, e1] at e2
          obtain rfl : y' = f j := Option.some.inj e2
          exact hrl j u' hu'
    · cases hrel
      rcases h1.2 with ⟨_, h4⟩ | ⟨b', cap, cur, h4, _⟩
      · subst h4
        have : zs = [] := List.eq_nil_of_length_eq_zero (by have := h1.1; omega)
        subst this
        exact ⟨rfl, Alike.nil, fun x hx => by cases hx⟩
      · cases h4
  obtain ⟨rfl, hk2, hk3⟩ := key
  refine ⟨y, zs, hcell, h1, hone, hk2, hk3, fun b' hb' => ?_⟩
  obtain ⟨h4, h5, h6⟩ := h2 b' hb'
  exact ⟨h4, h5, h6, (M.own b' id h4).1⟩
theorem flat_set : ∀ (xs : List AV), (∀ x ∈ xs, x.cells.length = 2) → ∀ (i : Nat) (a u u' : AV), xs[i]? = some (.agg [a, u]) → flatA (xs.set i (.agg [a, u'])) = (flatA xs).set (i * 2 + 1) u'
  | [], _, i, a, u, u', h => by simp at h
  | x :: r, hw, 0, a, u, u', h => by
    obtain rfl : x = .agg [a, u] := by simpa using h
    rfl
  | x :: r, hw, i + 1, a, u, u', h => by
    have ih := flat_set r (fun y hy => hw y (List.mem_cons_of_mem _ hy)) i a u u' (by simpa using h)
    have hx := hw x (List.mem_cons_self ..)
    obtain ⟨p, q, hpq⟩ : ∃ p q, x.cells = [p, q] := by
      match x.cells, hx with
      | [p, q], _ => exact ⟨p, q, rfl⟩
    have e1 : flatA (x :: r) = p :: q :: flatA r := by simp [hpq]
    have e2 : flatA (x :: r.set i (.agg [a, u'])) = p :: q :: flatA (r.set i (.agg [a, u'])) := by simp [hpq]
    rw [List.set_cons_succ, e1, e2, ih, show (i + 1) * 2 + 1 = (i * 2 + 1) + 1 + 1 by omega, List.set_cons_succ, List.set_cons_succ]
set_option maxHeartbeats 1000000 in
theorem kid_set (M : Mem w g ob) {id ep i : Nat} {xs : List AV} (h : ob[id]? = some (.row subT 2 false ep xs)) {b c : Nat} (hv : RowV w g id subT 2 (.slice (some ⟨b, 0, none⟩) xs.length c) xs)
    {a u : AV} (hx : xs[i]? = some (.agg [a, u])) {us : List AV} {y : Value} {zs : List Value} (hcell : w.cell? ⟨b, i * 2 + 1, none⟩ = some y) (hown : w.ownsRow 0 kidT 1 y us.length zs) (hal : Alike w g.A zs (flatA us)) (hus : ∀ x ∈ us, x.cells.length = 1)
    (hyb : ∀ b', y.ownBlock = some b' → g.G b' = some id ∧ g.sub b' = true ∧ (∀ o, us.length ≤ o → ¬ g.A b' o) ∧ b' < w.heap.size)
    {w1 w2 : World} {v' : Value} {n : Int} (hw1 : Below w.heap.size w w1) (ho2 : w2.ownsRow 0 kidT 1 v' (us.length + 1) (zs ++ [.int .i64 n])) (hg : w1.grownBy w2 y.ownBlock) (hvb : v'.ownBlock = y.ownBlock ∨ v'.ownBlock = some w1.heap.size)
    (hc2 : ∀ bb kk, bb < w1.heap.size → (y.ownBlock = some bb → kk < us.length * 1) → w2.cell? ⟨bb, kk, none⟩ = w1.cell? ⟨bb, kk, none⟩) :
    ∃ g3, Mem (w2.setCells b (i * 2 + 1) [v']) g3 (ob.set id (.row subT 2 false (ep + 1) (xs.set i (.agg [a, .slc 1 (us ++ [.val (.int .i64 n)])])))) ∧
      Step w g ob (w2.setCells b (i * 2 + 1) [v']) g3 (ob.set id (.row subT 2 false (ep + 1) (xs.set i (.agg [a, .slc 1 (us ++ [.val (.int .i64 n)])])))) ∧
      RowV (w2.setCells b (i * 2 + 1) [v']) g3 id subT 2 (.slice (some ⟨b, 0, none⟩) xs.length c) (xs.set i (.agg [a, .slc 1 (us ++ [.val (.int .i64 n)])])) := by
  obtain ⟨w3, hw3⟩ : ∃ w3, w3 = w2.setCells b (i * 2 + 1) [v'] := ⟨_, rfl⟩
  obtain ⟨g3, hg3⟩ : ∃ g3, g3 = g.kid w id v'.ownBlock (us.length + 1) := ⟨_, rfl⟩
  rw [← hw3]
  have hid := lt_of_some h
  have hil := lt_of_some hx
  obtain ⟨ys, ho, hG, hya, hyw, hs1, hs2⟩ := hv
  have hGb := hG b rfl
  have hsb := hs1 b rfl
  have hbl := (M.own b id hGb).1
  -- blocks: the main one, the slice's, what is new
  have hyne : ∀ b', y.ownBlock = some b' → b' ≠ b := fun b' hb e => by
    have := (hyb b' hb).2.1
    rw [e, hsb] at this; cases this
  have hvown : ∀ b', v'.ownBlock = some b' → (y.ownBlock = some b' ∧ b' < w.heap.size) ∨ w.heap.size ≤ b' := fun b' hb => by
    rcases hvb with e | e
    · rw [e] at hb; exact .inl ⟨hb, (hyb b' hb).2.2.2⟩
    · rw [e] at hb; cases hb; exact .inr hw1.size
  have keep : ∀ b', b' < w.heap.size → b' ≠ b → y.ownBlock ≠ some b' → w3.heap[b']? = w.heap[b']? := fun b' h1 h2 h3 => by
    rw [hw3, cell_setCells (k := 0) h2, hg.block b' (Nat.lt_of_lt_of_le h1 hw1.size) (fun e => h3 e.symm), hw1.block b' h1]
  have keepc : ∀ b' o, b' < w.heap.size → b' ≠ b → (y.ownBlock = some b' → o < us.length) → w3.cell? ⟨b', o, none⟩ = w.cell? ⟨b', o, none⟩ := fun b' o h1 h2 h3 => by
    rw [hw3, World.cell?_of_block (w := w2) (cell_setCells (k := 0) h2), hc2 b' o (Nat.lt_of_lt_of_le h1 hw1.size) (fun e => by have := h3 e; omega), World.cell?_of_block (w := w) (hw1.block b' h1)]
  have hsz : w.heap.size ≤ w3.heap.size := by
    rw [hw3, size_setCells]
    exact Nat.le_trans hw1.size hg.size
  have nomain : ∀ o, ¬ g.A b o := fun o hA => by
    obtain ⟨et, sz, e, xs2, h1, _⟩ := (M.imm b o hA).2 id hGb hsb
    rw [h] at h1; cases h1
  have hA : ∀ b' o, g.A b' o → w3.cell? ⟨b', o, none⟩ = w.cell? ⟨b', o, none⟩ := fun b' o h1 => by
    refine keepc b' o (M.imm b' o h1).1 (fun e => nomain o (e ▸ h1)) (fun e => ?_)
    refine Nat.lt_of_not_le fun h2 => (hyb b' e).2.2.1 o h2 h1
  have oldG : ∀ b', b' < w.heap.size → g3.G b' = g.G b' := fun b' h1 => by
    rw [hg3]
    show (if v'.ownBlock = some b' then some id else g.G b') = _
    split
    · rename_i e
      rcases hvown b' e with ⟨h2, _⟩ | h2
      · exact ((hyb b' h2).1).symm
      · omega
    · rfl
  have oldS : ∀ b', b' < w.heap.size → g3.sub b' = g.sub b' := fun b' h1 => by
    rw [hg3]
    show (if v'.ownBlock = some b' then true else g.sub b') = _
    split
    · rename_i e
      rcases hvown b' e with ⟨h2, _⟩ | h2
      · exact ((hyb b' h2).2.1).symm
      · omega
    · rfl
  have newA : ∀ b' o, g3.A b' o → g.A b' o ∨ (v'.ownBlock = some b' ∧ o < us.length + 1) := fun b' o h1 => by rw [hg3] at h1; exact h1
  have upA : ∀ b' o, g.A b' o → g3.A b' o := fun b' o h1 => by rw [hg3]; exact .inl h1
  have G3 : ∀ b' k, g3.G b' = some k → (b' < w.heap.size ∧ g.G b' = some k) ∨ (v'.ownBlock = some b' ∧ k = id) := fun b' k h1 => by
    rw [hg3] at h1
    have h1 : (if v'.ownBlock = some b' then some id else g.G b') = some k := h1
    split at h1
    · rename_i e; exact .inr ⟨e, (Option.some.inj h1).symm⟩
    · exact .inl ⟨(M.own b' k h1).1, h1⟩
  have vlt : ∀ b', v'.ownBlock = some b' → b' < w3.heap.size := fun b' hb => by
    rw [hw3, size_setCells]
    exact (ho2.lt b' hb).2
  -- other rows and boxes
  have other : ∀ b' k, g.G b' = some k → k ≠ id → w3.heap[b']? = w.heap[b']? := fun b' k h1 h2 => by
    refine keep b' (M.own b' k h1).1 (fun e => ?_) (fun e => ?_)
    · rw [e, hGb] at h1; exact h2 (Option.some.inj h1).symm
    · rw [(hyb b' e).1] at h1; exact h2 (Option.some.inj h1).symm
  have E : Ext w g ob w3 g3 (ob.set id (.row subT 2 false (ep + 1) (xs.set i (.agg [a, .slc 1 (us ++ [.val (.int .i64 n)])])))) := by
    refine ⟨fun b' o h1 => ⟨upA b' o h1, hA b' o h1⟩, fun _ _ => by rw [hg3]; rfl, fun k hk => ?_, fun k hk => ?_, fun k et sz fz e xs2 hk => ?_, fun b' k hGk hs => ?_⟩
    · have : k ≠ id := by rintro rfl; rw [h] at hk; exact hk
      rw [List.getElem?_set_ne (Ne.symm this)]; exact hk
    · have : k ≠ id := by rintro rfl; rw [h] at hk; exact hk
      rw [List.getElem?_set_ne (Ne.symm this)]; exact hk
    · by_cases e' : k = id
      · subst e'
        rw [h] at hk
        cases hk
        exact ⟨false, ep + 1, _, List.getElem?_set_self hid, by omega, fun h1 => by omega⟩
      · exact ⟨fz, e, xs2, by rw [List.getElem?_set_ne (Ne.symm e')]; exact hk, Nat.le_refl _, fun _ => ⟨rfl, fun b' hb' => ⟨by rw [oldG b' (M.own b' k hb').1]; exact hb', other b' k hb' e'⟩⟩⟩
    · have e' : k ≠ id := by
        rintro rfl
        obtain ⟨et, sz, fz, fz', e, xs2, xs3, h1, h2⟩ := hs
        rw [h] at h1
        cases h1
        rw [List.getElem?_set_self hid] at h2
        have := Option.some.inj h2
        injection this with _ _ _ h3
        omega
      refine ⟨oldS b' (M.own b' k hGk).1, fun _ o h1 => ?_⟩
      rcases newA b' o h1 with h2 | ⟨h2, _⟩
      · exact h2
      · rcases hvown b' h2 with ⟨h3, _⟩ | h3
        · rw [(hyb b' h3).1] at hGk; exact absurd (Option.some.inj hGk).symm e'
        · have := (M.own b' k hGk).1; omega
  have hrow : RowV w3 g3 id subT 2 (.slice (some ⟨b, 0, none⟩) xs.length c) (xs.set i (.agg [a, .slc 1 (us ++ [.val (.int .i64 n)])])) := by
    have hvne : ∀ b', v'.ownBlock = some b' → b' ≠ b := fun b' hb => by
      rcases hvown b' hb with ⟨h1, _⟩ | h1
      · exact hyne b' h1
      · omega
    have hv3 : w3.ownsRow 0 kidT 1 v' (us.length + 1) (zs ++ [.int .i64 n]) := ownsRow_ext ho2 fun b' hb => by rw [hw3]; exact cell_setCells (k := 0) (hvne b' hb)
    have hfl := flat_len xs hyw
    have hjl : i * 2 + 1 < ys.length := by rw [hya.1, hfl]; omega
    have hfs := flat_set xs hyw i a u (.slc 1 (us ++ [.val (.int .i64 n)])) hx
    have hlen' : (us ++ [AV.val (.int .i64 n)]).length = us.length + 1 := by simp
    have hw' : ∀ x ∈ us ++ [AV.val (.int .i64 n)], x.cells.length = 1 := fun x hx => by
      rcases List.mem_append.1 hx with h1 | h1
      · exact hus x h1
      · obtain rfl : x = .val (.int .i64 n) := by simpa using h1
        rfl
    have hfa : flatA (us ++ [AV.val (.int .i64 n)]) = flatA us ++ [.val (.int .i64 n)] := by simp [AV.cells]
    have hal' : Alike w3 g3.A (zs ++ [.int .i64 n]) (flatA (us ++ [AV.val (.int .i64 n)])) := by
      rw [hfa]
      refine (hal.keep E.A).append ⟨rfl, fun j y' u' h1 h2 => ?_⟩
      cases j with
      | zero =>
        obtain rfl : Value.int .i64 n = y' := by simpa using h1
        obtain rfl : AV.val (.int .i64 n) = u' := by simpa using h2
        exact PRel.val _ rfl
      | succ j => simp at h1
    have hvP : PRel w3 g3.A v' (.slc 1 (us ++ [.val (.int .i64 n)])) := by
      rcases hv3.2 with ⟨_, h1⟩ | ⟨b', cap, cur, h1, h2, h3, h4, h5, h6, h7⟩
      · omega
      · subst h1
        rw [← hlen'] at h4 hv3 ⊢
        have hzl : (zs ++ [Value.int .i64 n]).length = (us ++ [AV.val (.int .i64 n)]).length * 1 := hv3.1
        have hfl2 := flat_len (us ++ [AV.val (.int .i64 n)]) hw'
        have get : ∀ (j : Nat) u', (flatA (us ++ [AV.val (.int .i64 n)]))[j]? = some u' → j < (zs ++ [Value.int .i64 n]).length ∧ (zs ++ [Value.int .i64 n])[j]? = some ((zs ++ [Value.int .i64 n]).getD j undef) := fun j u' hu' => by
          have h8 := lt_of_some hu'
          rw [hfl2] at h8
          have h9 : j < (zs ++ [Value.int .i64 n]).length := by omega
          exact ⟨h9, by rw [List.getD_eq_getElem?_getD, List.getElem?_eq_getElem h9]; rfl⟩
        refine PRel.slc b' 0 cap 1 _ (fun j => (zs ++ [Value.int .i64 n]).getD j undef) h4 h5 hw' (fun j u' hu' => ⟨?_, ?_⟩) (fun j u' hu' => ?_)
        · rw [hg3]
          refine .inr ⟨rfl, ?_⟩
          have := (get j u' hu').1
          rw [hzl, hlen'] at this
          omega
        · have := hv3.cells (g := b') rfl j _ (get j u' hu').2
          rw [Addr.add_mid, Nat.zero_add] at this
          rw [Nat.zero_add]; exact this
        · exact hal'.2 j _ u' (get j u' hu').2 hu'
    rcases ho.2 with ⟨h1, _⟩ | ⟨b0, cap, cur, h1, h2, h3, h4, h5, h6, h7⟩
    · cases h1
    · cases h1
      have hh2 : w2.heap[b]? = some (.cells cur subT (0, 0)) := by
        rw [hg.block b (Nat.lt_of_lt_of_le hbl hw1.size) (fun e => hyne b e.symm rfl), hw1.block b hbl]
        exact h3
      have hjc : i * 2 + 1 < cur.size := by
        have : ys.length ≤ cur.size := by rw [← h7, List.length_take]; simp; omega
        omega
      have hh3 := heap_setCells_self (W := w2) [v'] (i * 2 + 1) w2 cur hh2 (by simp; omega)
      have hset : cur.toList.take (i * 2 + 1) ++ ([v'] ++ cur.toList.drop (i * 2 + 1 + [v'].length)) = cur.toList.set (i * 2 + 1) v' := by
        rw [List.set_eq_take_append_cons_drop, if_pos (by simpa using hjc)]
        rfl
      rw [hset] at hh3
      refine ⟨ys.set (i * 2 + 1) v', ⟨by rw [List.length_set, List.length_set]; exact ho.1, .inr ⟨b, c, (cur.toList.set (i * 2 + 1) v').toArray, by rw [List.length_set], Nat.zero_le _, by rw [hw3]; exact hh3, by rw [List.length_set]; exact h4, h5, by simpa using h6, ?_⟩⟩, fun b' hb => ?_, ?_, ?_, fun b' hb => ?_, fun _ j y' hy' hj => ?_⟩
      · rw [List.length_set]
        show ((cur.toList.set (i * 2 + 1) v').toArray.toList).take _ = _
        rw [List.toList_toArray, List.take_set, h7]
      · obtain rfl : b = b' := by simpa [Value.ownBlock] using hb
        rw [oldG b hbl]; exact hGb
      · rw [hfs]
        refine ⟨by rw [List.length_set, List.length_set]; exact hya.1, fun j y' u' h8 h9 => ?_⟩
        by_cases e : j = i * 2 + 1
        · subst e
          rw [List.getElem?_set_self hjl] at h8
          rw [List.getElem?_set_self (by rw [← hya.1]; exact hjl)] at h9
          cases h8; cases h9
          exact hvP
        · rw [List.getElem?_set_ne (Ne.symm e)] at h8 h9
          exact (hya.2 j y' u' h8 h9).keep E.A
      · intro x hx'
        rcases List.mem_or_eq_of_mem_set hx' with h1 | h1
        · exact hyw x h1
        · rw [h1]; rfl
      · obtain rfl : b = b' := by simpa [Value.ownBlock] using hb
        rw [oldS b hbl]; exact hsb
      · have hy0 : ys[i * 2 + 1]? = some y := by
          have e1 := List.getElem?_eq_getElem hjl
          have e2 := ho.cells (g := b) rfl _ _ e1
          rw [Addr.add_mid, Nat.zero_add, hcell] at e2
          rw [e1, ← Option.some.inj e2]
        -- a block that another one owns
        have oldne : ∀ (j : Nat) y', ys[j]? = some y' → j % 2 = 1 → j ≠ i * 2 + 1 → ∀ b', y'.ownBlock = some b' → v'.ownBlock ≠ some b' ∧ y.ownBlock ≠ some b' ∧ b' ≠ b ∧ b' < w.heap.size := fun j y' h8 h9 h10 b' hb => by
          obtain ⟨⟨k, zs', h11, h12⟩, h13⟩ := hs2 rfl j y' h8 h9
          obtain ⟨h14, h15, _⟩ := h12 b' hb
          have hyn : y.ownBlock ≠ some b' := fun e => h10 (h13 _ y b' hy0 (by omega) e hb).symm
          have hlt := (M.own b' id h14).1
          refine ⟨fun e => ?_, hyn, fun e => ?_, hlt⟩
          · rcases hvown b' e with ⟨h16, _⟩ | h16
            · exact hyn h16
            · omega
          · rw [e, hsb] at h15; cases h15
        by_cases e : j = i * 2 + 1
        · subst e
          rw [List.getElem?_set_self hjl] at hy'
          cases hy'
          refine ⟨⟨us.length + 1, _, hv3, fun b' hb => ⟨?_, ?_, fun o ho' hA' => ?_⟩⟩, fun k z b' hz hk hzb hvb' => ?_⟩
          · rw [hg3]
            show (if v'.ownBlock = some b' then some id else g.G b') = _
            rw [if_pos hb]
          · rw [hg3]
            show (if v'.ownBlock = some b' then true else g.sub b') = _
            rw [if_pos hb]
          · rcases newA b' o hA' with h8 | ⟨_, h8⟩
            · rcases hvown b' hb with ⟨h9, _⟩ | h9
              · exact (hyb b' h9).2.2.1 o (by omega) h8
              · have := (M.imm b' o h8).1; omega
            · omega
          · refine Classical.byContradiction fun hne => ?_
            rw [List.getElem?_set_ne (Ne.symm hne)] at hz
            exact (oldne k z hz hk hne b' hzb).1 hvb'
        · rw [List.getElem?_set_ne (Ne.symm e)] at hy'
          obtain ⟨⟨k, zs', h11, h12⟩, h13⟩ := hs2 rfl j y' hy' hj
          refine ⟨⟨k, zs', ownsRow_ext h11 fun b' hb => ?_, fun b' hb => ?_⟩, fun k' z b' hz hk' hzb hyb' => ?_⟩
          · obtain ⟨h8, h9, h10, h14⟩ := oldne j y' hy' hj e b' hb
            exact keep b' h14 h10 h9
          · obtain ⟨h8, h9, h10, h14⟩ := oldne j y' hy' hj e b' hb
            obtain ⟨h15, h16, h17⟩ := h12 b' hb
            refine ⟨by rw [oldG b' h14]; exact h15, by rw [oldS b' h14]; exact h16, fun o ho' hA' => ?_⟩
            rcases newA b' o hA' with h18 | ⟨h18, _⟩
            · exact h17 o ho' h18
            · exact h8 h18
          · by_cases e2 : k' = i * 2 + 1
            · subst e2
              rw [List.getElem?_set_self hjl] at hz
              cases hz
              exact absurd hzb (oldne j y' hy' hj e b' hyb').1
            · rw [List.getElem?_set_ne (Ne.symm e2)] at hz
              exact h13 k' z b' hz hk' hzb hyb'
  refine ⟨g3, ?_, ?_, hrow⟩
  · refine ⟨fun k cs hk => ?_, fun k cs hk j u hj => ?_, fun k s p hk => ?_, fun b' k hk => ?_, fun b' o hA' => ?_, fun k et sz fz e xs2 hk => ?_, fun b' hs => ?_, fun b1 b2 k h1 h2 hs hs' => ?_⟩
    · have e' : k ≠ id := by rintro rfl; rw [List.getElem?_set_self hid] at hk; cases hk
      rw [List.getElem?_set_ne (Ne.symm e')] at hk
      obtain ⟨h1, cur, T, h2, h3⟩ := M.box k cs hk
      have hl : g3.loc k = g.loc k := by rw [hg3]; rfl
      exact ⟨by rw [hl, oldG _ (M.own _ _ h1).1]; exact h1, cur, T, by rw [hl, other _ _ h1 e']; exact h2, h3.ext E⟩
    · have e' : k ≠ id := by rintro rfl; rw [List.getElem?_set_self hid] at hk; cases hk
      rw [List.getElem?_set_ne (Ne.symm e')] at hk
      obtain ⟨h1, y', h2, h3⟩ := M.fbox k cs hk j u hj
      have hl : g3.loc k = g.loc k := by rw [hg3]; rfl
      exact ⟨by rw [hl]; exact upA _ _ h1, y', by rw [hl, hA _ _ h1]; exact h2, h3.keep E.A⟩
    · have e' : k ≠ id := by rintro rfl; rw [List.getElem?_set_self hid] at hk; cases hk
      rw [List.getElem?_set_ne (Ne.symm e')] at hk
      obtain ⟨h1, h2⟩ := M.iter k s p hk
      have hl : g3.loc k = g.loc k := by rw [hg3]; rfl
      exact ⟨by rw [hl, oldG _ (M.own _ _ h1).1]; exact h1, by rw [hl, other _ _ h1 e']; exact h2⟩
    · rw [List.length_set]
      rcases G3 b' k hk with ⟨h1, h2⟩ | ⟨h1, rfl⟩
      · exact ⟨Nat.lt_of_lt_of_le h1 hsz, (M.own b' k h2).2⟩
      · exact ⟨vlt b' h1, hid⟩
    · rcases newA b' o hA' with h1 | ⟨h1, h2⟩
      · have h3 := M.imm b' o h1
        refine ⟨Nat.lt_of_lt_of_le h3.1 hsz, fun k hk hs => ?_⟩
        rw [oldG b' h3.1] at hk
        rw [oldS b' h3.1] at hs
        obtain ⟨et, sz, e, xs2, h4, h5⟩ := h3.2 k hk hs
        have e' : k ≠ id := by rintro rfl; rw [h] at h4; cases h4
        exact ⟨et, sz, e, xs2, by rw [List.getElem?_set_ne (Ne.symm e')]; exact h4, h5⟩
      · refine ⟨vlt b' h1, fun k hk hs => ?_⟩
        rw [hg3] at hs
        have hs : (if v'.ownBlock = some b' then true else g.sub b') = false := hs
        rw [if_pos h1] at hs; cases hs
    · by_cases e' : k = id
      · subst e'
        rw [List.getElem?_set_self hid] at hk
        cases hk
        refine ⟨by omega, fun x hx' => ?_⟩
        rcases List.mem_or_eq_of_mem_set hx' with h1 | h1
        · exact hyw x h1
        · rw [h1]; rfl
      · rw [List.getElem?_set_ne (Ne.symm e')] at hk; exact M.roww k _ _ _ _ _ hk
    · rw [hg3] at hs
      have hs : (if v'.ownBlock = some b' then true else g.sub b') = true := hs
      split at hs
      · rename_i h1
        refine ⟨id, _, _, _, _, _, ?_, List.getElem?_set_self hid⟩
        rw [hg3]
        show (if v'.ownBlock = some b' then some id else g.G b') = _
        rw [if_pos h1]
      · obtain ⟨k, et, sz, fz, e, xs2, h1, h2⟩ := M.nsub b' hs
        have h3 : g3.G b' = some k := by rw [oldG b' (M.own b' k h1).1]; exact h1
        by_cases e' : k = id
        · subst e'
          exact ⟨k, _, _, _, _, _, h3, List.getElem?_set_self hid⟩
        · exact ⟨k, et, sz, fz, e, xs2, h3, by rw [List.getElem?_set_ne (Ne.symm e')]; exact h2⟩
    · have main : ∀ b' k, g3.G b' = some k → g3.sub b' = false → g.G b' = some k ∧ g.sub b' = false := fun b' k h1 h2 => by
        rw [hg3] at h1 h2
        have h1 : (if v'.ownBlock = some b' then some id else g.G b') = some k := h1
        have h2 : (if v'.ownBlock = some b' then true else g.sub b') = false := h2
        split at h2
        · cases h2
        · rename_i e
          rw [if_neg e] at h1
          exact ⟨h1, h2⟩
      exact M.uniq b1 b2 k (main b1 k h1 hs).1 (main b2 k h2 hs').1 (main b1 k h1 hs).2 (main b2 k h2 hs').2
  · have hr := setCells_rest b [v'] (i * 2 + 1) w2
    refine ⟨?_, ?_, ?_, hsz, fun b' h1 h2 => ?_, fun b' k hk => ?_, fun b' o hA' => ?_, E, by simp⟩
    · rw [hw3, hr.1, hg.os, hw1.os]
    · rw [hw3, hr.2.1, hg.tape, hw1.tape]
    · rw [hw3, hr.2.2, hg.output, hw1.output]
    · exact keep b' h1 (fun e => by rw [e, hGb] at h2; cases h2) (fun e => by rw [(hyb b' e).1] at h2; cases h2)
    · rcases G3 b' k hk with ⟨_, h2⟩ | ⟨h1, rfl⟩
      · exact .inl ⟨k, h2⟩
      · rcases hvown b' h1 with ⟨h2, _⟩ | h2
        · exact .inl ⟨_, (hyb b' h2).1⟩
        · exact .inr h2
    · rcases newA b' o hA' with h1 | ⟨h1, _⟩
      · exact .inl h1
      · rcases hvown b' h1 with ⟨h2, _⟩ | h2
        · exact .inr (.inl ⟨_, (hyb b' h2).1⟩)
        · exact .inr (.inr h2)
end
end Go.Proofs.Ytblafdmmebiagaa
namespace Go.Proofs.Ytblafdmmebiagaa
open Go.RowKit Go.Lib
section
variable {P : Program} {ops : Array Oper} {R : Exit → Act → World → Prop} {a : Act} {w w' : World} {i : Nat} {rest : List Nat} {o : Oper} {ty : Tys}
theorem wpOps_val {v : Value} (ho : ops[i]? = some o) (hg : o.guard = none) (hr : (execOp a.eval o).run P w = .ok (.value v) w') (h : wpOps P ops R rest (a.put o.dst v) w') : wpOps P ops R (i :: rest) a w := by
  unfold wpOps
  rw [ho]
  simp only [Region.wanted, hg, if_true]
  exact .inl (wp_ok hr h)
theorem wpOps_skip (ho : ops[i]? = some o) (hg : o.guard = none) (hr : (execOp a.eval o).run P w = .ok .skip w') (h : wpOps P ops R rest (a.put o.dst undef) w') : wpOps P ops R (i :: rest) a w := by
  unfold wpOps
  rw [ho]
  simp only [Region.wanted, hg, if_true]
  refine .inl ?_
  unfold Oper.wp
  rw [hr]
  exact h
theorem size_put (d : Nat) (v : Value) : (a.put (some d) v).tmps.size = a.tmps.size := by
  show (a.tmps.setIfInBounds d v).size = _
  simp
theorem eval_put {d : Nat} (h : d < a.tmps.size) (v : Value) (t : Nat) : (a.put (some d) v).eval (.tmp t) = if t = d then v else a.eval (.tmp t) := by
  show (a.tmps.setIfInBounds d v).getD t undef = if t = d then v else a.tmps.getD t undef
  by_cases e : t = d
  · subst e; simp [Array.getD_eq_getD_getElem?, h]
  · rw [if_neg e]
    simp only [Array.getD_eq_getD_getElem?]
    rw [Array.getElem?_setIfInBounds_ne (Ne.symm e)]
structure At (N : Nat) (a : Act) (f : Nat → Value) : Prop where
  defers : a.defers = []
  size : a.tmps.size = N
  ev : ∀ t, a.eval (.tmp t) = f t
theorem At.put {N : Nat} {f : Nat → Value} (h : At N a f) {d : Nat} (hd : d < N) (v : Value) : At N (a.put (some d) v) fun t => if t = d then v else f t :=
  ⟨h.defers, by rw [size_put]; exact h.size, fun t => by rw [eval_put (by rw [h.size]; exact hd)]; rw [h.ev]⟩
theorem run_move {x : Operand} (ho : o.op = .move x ∨ o.op = .assign x) : (execOp a.eval o).run P w = .ok (.value (a.eval x)) w := by
  rcases ho with ho | ho <;> simp only [execOp, ho] <;> rfl
theorem run_nilCheck' {x : Operand} {ad : Addr} (ho : o.op = .nilCheck x) (hv : a.eval x = .pointer (some ad)) : (execOp a.eval o).run P w = .ok (.value (.pointer (some ad))) w := by
  simp only [execOp, ho, hv] <;> rfl
theorem run_fieldAddr (hT : TyOk P ty) {T : Nat} {x : Operand} {f off t b u : Nat} (ho : o.op = .fieldAddr T x f) (hf : (tyLook T ty).flds[f]? = some (off, t)) (hfo : fOk ty t = true)
    (hv : a.eval x = .pointer (some ⟨b, u, none⟩)) : (execOp a.eval o).run P w = .ok (.value (.pointer (some ⟨b, u + off, none⟩))) w := by
  obtain ⟨fs, fd, h1, h2, h3⟩ := (ty_fld hT hf).strct' hf
  obtain ⟨rfl, rfl⟩ : off = fd.offset ∧ t = fd.type := by simpa using h3
  simp only [fOk, Bool.and_eq_true, bne_iff_ne, ne_eq] at hfo
  have hs := (ty_ok hT hfo.1).size w
  simp only [execOp, ho]
  refine run_valW ?_
  rw [hv]
  simp [Instr.fieldAt, run_underlying h1, h2, Instr.sureAddr, fieldPlace, hs, hfo.2, Addr.add_mid]
theorem run_load1 (hT : TyOk P ty) {T : Nat} {x : Operand} {b u : Nat} {y : Value} (ho : o.op = .load T x) (hok : (tyLook T ty).ok = true) (hag : (tyLook T ty).agg = false)
    (hv : a.eval x = .pointer (some ⟨b, u, none⟩)) (hc : w.cell? ⟨b, u, none⟩ = some y) : (execOp a.eval o).run P w = .ok (.value y) w := by
  have := (ty_ok hT hok).isAgg w
  rw [hag] at this
  simp only [execOp, ho]
  refine run_valW ?_
  rw [hv]
  simp [Instr.loadAt, Instr.sureAddr, loadVar, this, hc]
theorem run_store1 (hT : TyOk P ty) {T : Nat} {x y : Operand} {b u : Nat} {v : Value} (ho : o.op = .store T x y) (hok : (tyLook T ty).ok = true) (hsz : (tyLook T ty).size = 1)
    (hv : a.eval x = .pointer (some ⟨b, u, none⟩)) (hy : a.eval y = v) (h1 : v.oneCell' = true) {z : Value} (hc : w.cell? ⟨b, u, none⟩ = some z) (hf : w.frozen? ⟨b, u, none⟩ = false) :
    (execOp a.eval o).run P w = .ok .skip (w.setCells b u [v]) := by
  have hst := run_storeCells_cells (P := P) b u [v] 0 w (fun j hj => by
    obtain rfl : j = 0 := by simpa using hj
    show (w.cell? ⟨b, u, none⟩).isSome = true
    rw [hc]; rfl) (fun j hj => by
    obtain rfl : j = 0 := by simpa using hj
    exact hf) (fun v' hv' => by
    obtain rfl : v' = v := by simpa using hv'
    exact h1)
  rw [Nat.add_zero] at hst
  have hsT := (ty_ok hT hok).size w
  rw [hsz] at hsT
  have hcl : v.cells = #[v] := one_cells h1
  simp only [execOp, ho, Instr.storeAt, hv, hy, Instr.sureAddr, storeVar, Sem.run_bind, Sem.run_pure, Result.andThen_ok, hsT, hcl]
  simp [hst]
theorem run_app {x y : Operand} {T U : Nat} {v : Value} (ho : o.op = .call { callee := .builtin .append, args := #[x, y], argTypes := #[T, U] }) (hr : (Builtin.append_ #[T, U] o.type #[a.eval x, a.eval y]).run P w = .ok v w') :
    (execOp a.eval o).run P w = .ok (.value v) w' := by
  obtain ⟨cs, hc⟩ := exec_builtin (P := P) (a := a) ho w
  rw [hc]
  show (do pure (Next.value (← Builtin.append_ #[T, U] o.type (Array.map a.eval #[x, y]))) : Sem Next).run P w = _
  refine run_valW ?_
  simpa using hr
end
section
variable {w0 : World} {g0 : Gh} {o0 : List Ob}
theorem setCells_same {w : World} {b o : Nat} {v : Value} {cur : Array Value} {T : TypeId} {fr : Nat × Nat} (h : w.heap[b]? = some (.cells cur T fr)) (hv : cur[o]? = some v) : w.setCells b o [v] = w := by
  have e : cur.setIfInBounds o v = cur := by
    apply Array.ext'
    refine List.ext_getElem? fun j => ?_
    rw [Array.getElem?_toList, Array.getElem?_toList, Array.getElem?_setIfInBounds]
    split
    · rename_i e; subst e
      split
      · exact hv.symm
      · rename_i hn; rw [Array.getElem?_eq_none (by omega)]
    · rfl
  show ({ w with heap := _ } : World) = w
  have e2 : (w.heap.modify b fun
      | .cells c elem frozen => .cells (if (none : Option Nat).isSome then c else c.setIfInBounds o v) elem frozen
      | o => o) = w.heap := by
    apply Array.ext'
    refine List.ext_getElem? fun j => ?_
    rw [Array.getElem?_toList, Array.getElem?_toList, Array.getElem?_modify]
    split
    · rename_i e3; subst e3
      rw [h]
      simp [e]
    · rfl
  exact congrArg (fun x => ({ w with heap := x } : World)) e2
theorem sim_start {ob : List Ob} {args : List AV} {g : Gh} {w : World} {vs : List Value} {N : Nat} (M : Mem w g ob) (hL : ARelL w g ob vs args) (hn : args.length ≤ N) :
    Sim w g ob N ⟨ent 0 args, ob⟩ { tmps := vs.toArray ++ Array.replicate (N - vs.toArray.size) undef, defers := [] } w := by
  have hlen : vs.length = args.length := hL.1
  refine ⟨rfl, ?_, g, M, fun t => ?_, Step.refl⟩
  · simp; omega
  · show ARel w g ob _ (lk t (ent 0 args))
    rw [lk_ent]
    simp only [Nat.zero_le, if_true, Nat.sub_zero]
    by_cases ht : t < args.length
    · rw [List.getD_eq_getElem?_getD, List.getElem?_eq_getElem ht, Option.getD_some]
      have e : (vs.toArray ++ Array.replicate (N - vs.toArray.size) undef).getD t undef = vs[t]'(by omega) := by
        rw [Array.getD_eq_getD_getElem?, Array.getElem?_append_left (by simp; omega)]
        simp [show t < vs.length by omega]
      rw [e]
      exact (hL.2 t _ _ (List.getElem?_eq_getElem (by omega)) (List.getElem?_eq_getElem ht)).to
    · rw [List.getD_eq_getElem?_getD, List.getElem?_eq_none (by omega)]
      trivial
end
theorem results_none {P : Program} {fn : Func} (h : fn.results = #[]) (tmps : Array Value) (w : World) : (results fn tmps).run P w = .ok (.tuple #[]) w := by
  simp [results, h]
noncomputable def kidR0 : Code := match Try.f28.body with | some (.seq c _) => c | _ => .skip
noncomputable def kidR1 : Code := match Try.f28.body with | some (.seq _ c) => c | _ => .skip
def kidQ (ob : List Ob) (k : Nat) (i n : Int) (e : Ex) (s : St) : Prop := e = .normal ∧ s.ob = ob ∧ lk 4 s.tm = .rptr k 0 i 0 ∧ lk 1 s.tm = .val (.int .i64 n)
set_option maxRecDepth 20000 in
set_option maxHeartbeats 4000000 in
theorem kid_any {ob : List Ob} {k : Nat} {bs tp : AV} {xs : List AV} (hb : ob[0]? = some (.box [bs, tp, .row k 0])) (hk : ob[k]? = some (.row subT 2 false 0 xs)) {i n : Int}
    (hr0 : ∀ w0 g0, (aexec std tys cs0 (fun _ => .nil) kidR0 (fun e s => .leaf e s) ⟨ent 0 [.box 0 0, .val (.int .i64 n)], ob⟩).ok Try.prog w0 g0 ob 26 (kidQ ob k i n))
    {a u : AV} {us : List AV} (hi : 0 ≤ i) (hx : xs[i.toNat]? = some (.agg [a, u])) (hu : u = .slc 1 us ∨ (u = .val (.slice none 0 0) ∧ us = [])) (hul : us.length ≤ 1000000) :
    BCall Try.prog 28 [.box 0 0, .val (.int .i64 n)] ob (.tup []) ((ob.set k (.row subT 2 false 1 (xs.set i.toNat (.agg [a, .slc 1 (us ++ [.val (.int .i64 n)])])))).set 0 (.box [bs, tp, .row k 1])) := by
  refine ⟨enters_of Try.func28 (by kernel_rfl) rfl, fun w0 g0 vs M0 hL => calls_of_wp Try.func28 (c := .seq kidR0 kidR1) rfl ?_⟩
  refine wp_seq (aexec_sound (w0 := w0) (g0 := g0) (o0 := ob) (N := 26) (Q := kidQ ob k i n) (cs := cs0) (ord := fun _ => .nil) tyOk (by kernel_rfl) kidR0 (fun e s => .leaf e s) _ ⟨ent 0 [.box 0 0, .val (.int .i64 n)], ob⟩ _ w0 (by kernel_rfl) (by kernel_rfl) (fun c a d v w h => h) (fun e s ac w hs hq => ?_) (sim_start M0 hL (Nat.le_of_ble_eq_true rfl)) (hr0 w0 g0))
  obtain ⟨rfl, hob, h4, h1⟩ := (show kidQ ob k i n e s from hq)
  show kidR1.wp _ _ ac w
  refine wp_region ?_
  show wpOps _ _ _ [0, 1, 2, 3, 4, 5, 6, 7, 8, 9, 10] ac w
  obtain ⟨hdf, hsz, g, M, hS, h0⟩ := hs
  rw [hob] at M h0
  have hk0 : k ≠ 0 := by rintro rfl; rw [hb] at hk; cases hk
  -- what the slots hold
  have hp := hS 4
  rw [h4, hob] at hp
  obtain ⟨_, et, sz, fz, ee, xs', hob', _, hp2⟩ := (show ARel0 w g ob _ (.rptr k 0 i 0) from hp)
  rw [hk] at hob'
  cases hob'
  obtain ⟨b, c, hpv, _, hil, hRV⟩ := hp2 rfl
  have hn := hS 1
  rw [h1] at hn
  have hnv := hn.valEq
  -- the maker's box
  obtain ⟨hG0, cur, T0, hh0, hc0⟩ := M.box 0 _ hb
  have hcl : cur.toList.length = 3 := hc0.1
  obtain ⟨v, hv⟩ : ∃ v, cur.toList[2]? = some v := ⟨_, List.getElem?_eq_getElem (by omega)⟩
  obtain ⟨⟨hv1, et, sz, fz, ee, xs', hob', _, hv2⟩, _⟩ := hc0.2 2 v (.row k 0) hv rfl
  rw [hk] at hob'
  cases hob'
  have hRB := hv2 rfl
  obtain ⟨ysP, hoP, hGP, _, _, hsP, _⟩ := hRV
  obtain ⟨ysB, hoB, hGB, _, _, hsB, _⟩ := (show RowV w g k subT 2 v xs from hRB)
  rcases hoB.2 with ⟨_, h00⟩ | ⟨bB, cap, curB, rfl, _, hhB, _, _, _, _⟩
  · omega
  obtain rfl : b = bB := M.uniq _ _ k (hGP b rfl) (hGB bB rfl) (hsP b rfl) (hsB bB rfl)
  obtain ⟨y, zs, hcell, hown, hone, hal, hus, hyb⟩ := kid_get M hk hRB hx hu
  have hGb := hGB b rfl
  have hbl := (M.own b k hGb).1
  have hyne : y.ownBlock ≠ some b := fun e => by
    have := (hyb b e).2.1
    rw [hsB b rfl] at this; cases this
  have h0ne : g.loc 0 ≠ b := fun e => by
    rw [e, hGb] at hG0
    exact hk0 (Option.some.inj hG0)
  have h0ny : y.ownBlock ≠ some (g.loc 0) := fun e => by
    have := (hyb _ e).1
    rw [hG0] at this
    exact hk0 (Option.some.inj this).symm
  -- one operation after the other
  have A0 : At 26 ac (fun t => ac.eval (.tmp t)) := ⟨hdf, hsz, fun _ => rfl⟩
  have e4 : ac.eval (.tmp 4) = .pointer (some ⟨b, i.toNat * 2 + 0, none⟩) := hpv
  have e1 : ac.eval (.tmp 1) = .int .i64 n := hnv
  generalize hPV : Value.pointer (some ⟨b, i.toNat * 2 + 0, none⟩) = PV at e4
  refine wpOps_val rfl rfl (run_move (x := .tmp 4) (.inl rfl)) ?_
  rw [e4]
  show wpOps _ _ _ [1, 2, 3, 4, 5, 6, 7, 8, 9, 10] (ac.put (some 16) PV) w
  have A1 := A0.put (d := 16) (by decide) PV
  generalize ac.put (some 16) PV = a1 at A1 ⊢
  refine wpOps_val rfl rfl (run_move (x := .tmp 4) (.inl rfl)) ?_
  rw [show a1.eval (.tmp 4) = PV by rw [A1.ev]; exact e4]
  show wpOps _ _ _ [2, 3, 4, 5, 6, 7, 8, 9, 10] (a1.put (some 17) PV) w
  have A2 := A1.put (d := 17) (by decide) PV
  generalize a1.put (some 17) PV = a2 at A2 ⊢
  refine wpOps_val rfl rfl (run_nilCheck' (x := .tmp 17) (ad := ⟨b, i.toNat * 2 + 0, none⟩) rfl (by rw [A2.ev, hPV]; rfl)) ?_
  rw [hPV]
  show wpOps _ _ _ [3, 4, 5, 6, 7, 8, 9, 10] (a2.put (some 18) PV) w
  have A3 := A2.put (d := 18) (by decide) PV
  generalize a2.put (some 18) PV = a3 at A3 ⊢
  refine wpOps_val rfl rfl (run_fieldAddr tyOk (x := .tmp 18) (off := 1) (t := 25) rfl (by kernel_rfl) (by kernel_rfl) (b := b) (u := i.toNat * 2 + 0) (by rw [A3.ev, hPV]; rfl)) ?_
  rw [Nat.add_zero]
  generalize hFV : Value.pointer (some ⟨b, i.toNat * 2 + 1, none⟩) = FV
  show wpOps _ _ _ [4, 5, 6, 7, 8, 9, 10] (a3.put (some 19) FV) w
  have A4 := A3.put (d := 19) (by decide) FV
  generalize a3.put (some 19) FV = a4 at A4 ⊢
  refine wpOps_val rfl rfl (run_load1 tyOk (x := .tmp 19) rfl (by kernel_rfl) (by kernel_rfl) (b := b) (u := i.toNat * 2 + 1) (by rw [A4.ev, hFV]; rfl) hcell) ?_
  show wpOps _ _ _ [5, 6, 7, 8, 9, 10] (a4.put (some 20) y) w
  have A5 := A4.put (d := 20) (by decide) y
  generalize a4.put (some 20) y = a5 at A5 ⊢
  refine wpOps_val rfl rfl (run_move (x := .tmp 1) (.inl rfl)) ?_
  rw [show a5.eval (.tmp 1) = .int .i64 n by rw [A5.ev]; exact e1]
  generalize hNV : Value.int .i64 n = NV
  show wpOps _ _ _ [6, 7, 8, 9, 10] (a5.put (some 21) NV) w
  have A6 := A5.put (d := 21) (by decide) NV
  generalize a5.put (some 21) NV = a6 at A6 ⊢
  -- the slice of one number
  obtain ⟨e, hu25, hee, te, hes, _⟩ := el_facts tyOk (T := 25) (sz := 1) (by kernel_rfl)
  obtain ⟨ie, z, hie, hies, hieb, hiz, hzc⟩ := te.i
  have hek : e = kidT := hee.trans (by kernel_rfl)
  rw [hes] at hies
  have hzs : z.cells.size = 1 := by
    have := congrArg List.length hzc
    rw [Array.length_toList, te.zl, hes] at this
    exact this
  have hN1 : NV.cells = #[NV] := by rw [← hNV]; rfl
  obtain ⟨c', hf, hc'⟩ := fillDense (sz := 1) [NV] 0 ((Array.range (1 * 1)).map (z.cells[· % z.cells.size]!)) (fun v' hv' => by
    obtain rfl : v' = NV := by simpa using hv'
    rw [hN1]; rfl) (by simp)
  obtain rfl : c' = #[NV] := by
    apply Array.ext'
    rw [hc']
    simp [hN1]
  have hrB : (Instr.buildSlice 25 1 #[(0, NV)]).run Try.prog w = .ok (.slice (some ⟨w.heap.size, 0, none⟩) 1 1) (w.alloc (.cells #[NV] e)) :=
    run_buildSlice w 25 e 1 _ _ ie z hu25 hie hiz (by rw [hies]; decide) (by rw [hies]; decide) (by rw [hies]; exact hf)
  refine wpOps_val (w' := w.alloc (.cells #[NV] e)) (v := .slice (some ⟨w.heap.size, 0, none⟩) 1 1) rfl rfl (by
    simp only [execOp]
    refine run_valW ?_
    have : (#[(0, Operand.tmp 21)].map fun (x : Nat × Operand) => (x.1, a6.eval x.2)) = #[(0, NV)] := by
      simp [A6.ev]
    rw [← this] at hrB
    exact hrB) ?_
  have hhN : (w.alloc (.cells #[NV] e)).heap[w.heap.size]? = some (.cells #[NV] e (0, 0)) := heap_new w _
  have hB1 : Below w.heap.size w (w.alloc (.cells #[NV] e)) := (Below.refl _ w).alloc (Nat.le_refl _) _
  have hold : ∀ b', b' < w.heap.size → (w.alloc (.cells #[NV] e)).heap[b']? = w.heap[b']? := fun b' h => heap_old h
  generalize hSV : Value.slice (some ⟨w.heap.size, 0, none⟩) 1 1 = SV
  show wpOps _ _ _ [7, 8, 9, 10] (a6.put (some 22) SV) _
  generalize w.alloc (.cells #[NV] e) = w1 at hhN hB1 hold ⊢
  have A7 := A6.put (d := 22) (by decide) SV
  generalize a6.put (some 22) SV = a7 at A7 ⊢
  obtain ⟨v', w2, hrA, ho2, hg, hvb, hc2⟩ := append_any (P := Try.prog) (w := w1) (t := 25) (u := 25) (ty := 25) hu25 hu25 (.inl ⟨_, rfl⟩) hie hiz hies (by rw [hieb]; exact te.by_) hzs
    (ownsRow_ext (hek ▸ hown) fun b' hb' => hold b' (hyb b' hb').2.2.2) (x := SV) (m := 1) (news := [NV]) rfl (fun W => by rw [← hSV]; rfl)
    (fun W hW => by
      rw [← hSV]
      refine run_firstCells_some (P := Try.prog) W 1 1 _ _ _ [NV] rfl (fun j u hj => ?_)
      cases j with
      | zero =>
        obtain rfl : NV = u := by simpa using hj
        show W.cell? ⟨w.heap.size, 0 + 0, none⟩ = _
        simp [World.cell?, hW, hhN]
      | succ j => simp at hj) (fun u hu => by
      obtain rfl : u = NV := by simpa using hu
      rw [← hNV]; rfl) (by omega)
  refine wpOps_val rfl rfl (run_app (x := .tmp 20) (y := .tmp 22) rfl (by
    rw [show a7.eval (.tmp 20) = y by rw [A7.ev]; rfl, show a7.eval (.tmp 22) = SV by rw [A7.ev]; rfl]
    exact hrA)) ?_
  show wpOps _ _ _ [8, 9, 10] (a7.put (some 23) v') w2
  have A8 := A7.put (d := 23) (by decide) v'
  generalize a7.put (some 23) v' = a8 at A8 ⊢
  refine wpOps_val rfl rfl (run_nilCheck' (x := .tmp 16) (ad := ⟨b, i.toNat * 2 + 0, none⟩) rfl (by rw [A8.ev, hPV]; rfl)) ?_
  rw [hPV]
  show wpOps _ _ _ [9, 10] (a8.put (some 24) PV) w2
  have A9 := A8.put (d := 24) (by decide) PV
  generalize a8.put (some 24) PV = a9 at A9 ⊢
  refine wpOps_val rfl rfl (run_fieldAddr tyOk (x := .tmp 24) (off := 1) (t := 25) rfl (by kernel_rfl) (by kernel_rfl) (b := b) (u := i.toNat * 2 + 0) (by rw [A9.ev, hPV]; rfl)) ?_
  rw [Nat.add_zero, hFV]
  show wpOps _ _ _ [10] (a9.put (some 25) FV) w2
  have A10 := A9.put (d := 25) (by decide) FV
  generalize a9.put (some 25) FV = a10 at A10 ⊢
  have hh2 : w2.heap[b]? = w.heap[b]? := by
    rw [hg.block b (Nat.lt_of_lt_of_le hbl hB1.size) (fun e => hyne e.symm), hold b hbl]
  have hv'1 : v'.oneCell' = true := by
    rcases ho2.2 with ⟨_, h00⟩ | ⟨b', cap', cur', rfl, _⟩
    · omega
    · rfl
  refine wpOps_skip (w' := w2.setCells b (i.toNat * 2 + 1) [v']) rfl rfl (run_store1 tyOk (x := .tmp 25) (y := .tmp 23) rfl (by kernel_rfl) (by kernel_rfl) (by rw [A10.ev, hFV]; rfl) (by rw [A10.ev]; rfl) hv'1 (z := y)
    (by rw [World.cell?_of_block (w := w) hh2]; exact hcell) (by simp [World.frozen?, hh2, hhB])) ?_
  obtain ⟨g3, M3, S3, R3⟩ := kid_set M hk hRB hx hcell hown hal hus hyb (n := n) hB1 (hNV ▸ hek ▸ ho2) hg hvb hc2
  generalize hw3 : w2.setCells b (i.toNat * 2 + 1) [v'] = w3 at M3 S3 R3 ⊢
  have hb3 : (ob.set k (.row subT 2 false (0 + 1) (xs.set i.toNat (.agg [a, .slc 1 (us ++ [.val (.int .i64 n)])]))))[0]? = some (.box [bs, tp, .row k 0]) := by
    rw [List.getElem?_set_ne hk0]; exact hb
  have hl0 : g3.loc 0 = g.loc 0 := S3.ext.loc 0 (lt_of_some hb)
  have hh3 : w3.heap[g.loc 0]? = some (.cells cur T0 (0, 0)) := by
    have hlt := (M.own _ _ hG0).1
    rw [← hw3, cell_setCells (k := 0) h0ne, hg.block _ (Nat.lt_of_lt_of_le hlt hB1.size) (fun e => h0ny e.symm), hold _ hlt]
    exact hh0
  have M4 := M3.store hb3 (off := 2) (vs := [Value.slice (some ⟨b, 0, none⟩) xs.length cap]) (us := [.row k 1]) ⟨rfl, fun j y' u' hy' hu' => by
    cases j with
    | zero =>
      obtain rfl : Value.slice (some ⟨b, 0, none⟩) xs.length cap = y' := by simpa using hy'
      obtain rfl : AV.row k 1 = u' := by simpa using hu'
      exact ⟨⟨rfl, subT, 2, false, 1, _, List.getElem?_set_self (lt_of_some hk), Nat.le_refl _, fun _ => by
        have hlx : (xs.set i.toNat (.agg [a, .slc 1 (us ++ [.val (.int .i64 n)])])).length = xs.length := by rw [List.length_set]
        exact R3⟩, rfl⟩
    | succ j => simp at hy'⟩ (Nat.le_refl _)
  have S4 := Step.store M3 hb3 2 [Value.slice (some ⟨b, 0, none⟩) xs.length cap] [bs, tp, .row k 1]
  rw [hl0, setCells_same hh3 (by rw [← Array.getElem?_toList]; exact hv)] at M4 S4
  show bodyPost _ _ _ .normal _ _
  subst hNV
  exact ⟨A10.defers, _, results_none rfl _ _, _, g3, rfl, M4, ⟨#[], rfl, rfl, fun j y' u' h => by simp at h⟩, (h0.trans S3).trans S4⟩
end Go.Proofs.Ytblafdmmebiagaa
namespace Go.Proofs.Ytblafdmmebiagaa
open Go.RowKit Go.Lib
structure Node where
  kind : Int
  width : Int
  count : Int
  leaf : Bool
  b : List UInt8
  kids : List Int
  deriving Inhabited
def Node.av (x : Node) : AV := .agg [.val (.int .i64 x.kind), .val (.int .i64 x.width), .val (.int .i64 x.count), .val (.bool x.leaf), .slc 1 (bytesA x.b), .slc 1 (intsA x.kids)]
def nodesA (l : List Node) : List AV := l.map Node.av
theorem nodes_len (l : List Node) : (nodesA l).length = l.length := by simp [nodesA]
def node0 : Node := ⟨0, 0, 0, false, [], []⟩
def nodeAt (l : List Node) (n : Int) : Node := if 0 ≤ n ∧ n < l.length then l[n.toNat]?.getD node0 else node0
theorem nodes_at {l : List Node} {n : Int} (h0 : 0 ≤ n) (h1 : n < l.length) : (nodesA l)[n.toNat]?.getD .dead = (nodeAt l n).av := by
  rw [nodeAt, if_pos ⟨h0, h1⟩]
  exact getA Node.av h0 h1 node0
theorem Len_b (l : List Node) : BCall Try.prog 53 [.ref [.slc 6 (nodesA l)]] [] (.val (.int .i64 l.length)) [] := by
  refine bcall_of (cs := cs0) (ord := fun _ => .nil) tyOk (by kernel_rfl) Try.func53 rfl (enters_of Try.func53 (by kernel_rfl) rfl) (Nat.le_of_ble_eq_true rfl) (by kernel_rfl) (by kernel_rfl) ?_
  intro w0 g0
  generalize hp : std = p
  generalize hxs : nodesA l = xs
  generalize hT : aexec p tys (cs0) _ _ _ _ = T
  cbv at hT
  subst hT
  simp only [Tree.ok, RoundOk, Bool.false_eq_true, Bool.true_eq_false, false_implies, true_implies, and_true, true_and]
  subst hp hxs
  refine ⟨by simp [std, allP, lstOf], .pure rfl (.inl ?_)⟩
  simp [std, lstOf, nodesA]
def csOf (len : List AV → Int) : Nat → List AV → List Ob → Option (AV × List Ob) := fun f args _ => match f, args with
  | 53, [.ref [.slc 6 xs]] => some (.val (.int .i64 (len xs)), [])
  | _, _ => none
def lenA (xs : List AV) : Int := xs.length
theorem Len_l (l : List Node) : BCall Try.prog 53 [.ref [.slc 6 (nodesA l)]] [] (.val (.int .i64 (lenA (nodesA l)))) [] := by
  have := Len_b l
  rw [← nodes_len] at this
  exact this
theorem of_b (l : List Node) (n : Int) : BCall Try.prog 32 [.ref [.slc 6 (nodesA l)], .val (.int .i64 n)] [] (nodeAt l n).av [] := by
  refine bcall_of (cs := csOf lenA) (ord := fun _ => .nil) tyOk (by kernel_rfl) Try.func32 rfl (enters_of Try.func32 (by kernel_rfl) rfl) (Nat.le_of_ble_eq_true rfl) (by kernel_rfl) (by kernel_rfl) ?_
  intro w0 g0
  generalize hp : std = p
  generalize hlen : lenA = len
  generalize hxs : nodesA l = xs
  generalize hT : aexec p tys (csOf len) _ _ _ _ = T
  cbv at hT
  subst hT
  simp only [Tree.ok, RoundOk, Bool.false_eq_true, Bool.true_eq_false, false_implies, true_implies, and_true, true_and]
  subst hp hlen hxs
  have hlen := nodes_len l
  refine ⟨fun h1 => .pure rfl ?_, fun h1 => ⟨Len_l l, fun h2 => .pure rfl ?_, fun h2 => ⟨?_, ?_, ?_, .pure rfl ?_⟩⟩⟩
  · have h1 : n < 0 := by simpa [std] using h1
    have : ¬ (0 ≤ n ∧ n < l.length) := by omega
    simp [nodeAt, this, Node.av, node0, leA, leA1, leL, leC, bytesA, intsA]
  · have h2 : (l.length : Int) ≤ n := by simpa [std, lenA, hlen] using h2
    have : ¬ (0 ≤ n ∧ n < l.length) := by omega
    simp [nodeAt, this, Node.av, node0, leA, leA1, leL, leC, bytesA, intsA]
  · simp [std, allP, lstOf]
  all_goals
    have h1 : 0 ≤ n := by simpa [std] using h1
    have h2 : n < l.length := by simpa [std, lenA, hlen] using h2
    have hat := nodes_at h1 h2
  · simp [std, lstOf, hlen, h1, h2]
  · simp [std, allP, lstOf, hat, Node.av, AV.cells, intOf, booOf]
  · simp [std, allP, lstOf, hat, Node.av, AV.cells, intOf, booOf, leA, leA1, leL, leC]
def csAt (k w c : Int → Int) (lf : Int → Bool) (b s : Int → List AV) : Nat → List AV → List Ob → Option (AV × List Ob) := fun f args _ => match f, args with
  | 32, [.ref [.slc 6 _], .val (.int .i64 n)] => some (.agg [.val (.int .i64 (k n)), .val (.int .i64 (w n)), .val (.int .i64 (c n)), .val (.bool (lf n)), .slc 1 (b n), .slc 1 (s n)], [])
  | 40, [.slc 1 xs] => some (.slc 1 xs, [])
  | 99, [.slc 1 xs] => some (.slc 1 xs, [])
  | 48, [.slc 1 xs] => some (.slc 1 xs, [])
  | _, _ => none
def kindN (l : List Node) (n : Int) : Int := (nodeAt l n).kind
def widthN (l : List Node) (n : Int) : Int := (nodeAt l n).width
def countN (l : List Node) (n : Int) : Int := (nodeAt l n).count
def leafN (l : List Node) (n : Int) : Bool := (nodeAt l n).leaf
def bN (l : List Node) (n : Int) : List AV := bytesA (nodeAt l n).b
def kidsN (l : List Node) (n : Int) : List AV := intsA (nodeAt l n).kids
theorem Kind_b (l : List Node) (n : Int) : BCall Try.prog 24 [.ref [.slc 6 (nodesA l)], .val (.int .i64 n)] [] (.val (.int .i64 (nodeAt l n).kind)) [] := by
  refine bcall_of (cs := csAt (kindN l) (widthN l) (countN l) (leafN l) (bN l) (kidsN l)) (ord := fun _ => .nil) tyOk (by kernel_rfl) Try.func24 rfl (enters_of Try.func24 (by kernel_rfl) rfl) (Nat.le_of_ble_eq_true rfl) (by kernel_rfl) (by kernel_rfl) ?_
  intro w0 g0
  generalize hp : std = p
  generalize hk : kindN l = k
  generalize hw : widthN l = w
  generalize hc : countN l = c
  generalize hlf : leafN l = lf
  generalize hb : bN l = b
  generalize hs : kidsN l = s
  generalize hxs : nodesA l = xs
  generalize hT : aexec p tys (csAt k w c lf b s) _ _ _ _ = T
  cbv at hT
  subst hT
  simp only [Tree.ok, RoundOk, Bool.false_eq_true, Bool.true_eq_false, false_implies, true_implies, and_true, true_and]
  subst hp hk hw hc hlf hb hs hxs
  exact ⟨of_b l n, .pure rfl (.inl rfl)⟩
theorem Width_b (l : List Node) (n : Int) : BCall Try.prog 10 [.ref [.slc 6 (nodesA l)], .val (.int .i64 n)] [] (.val (.int .i64 (nodeAt l n).width)) [] := by
  refine bcall_of (cs := csAt (kindN l) (widthN l) (countN l) (leafN l) (bN l) (kidsN l)) (ord := fun _ => .nil) tyOk (by kernel_rfl) Try.func10 rfl (enters_of Try.func10 (by kernel_rfl) rfl) (Nat.le_of_ble_eq_true rfl) (by kernel_rfl) (by kernel_rfl) ?_
  intro w0 g0
  generalize hp : std = p
  generalize hk : kindN l = k
  generalize hw : widthN l = w
  generalize hc : countN l = c
  generalize hlf : leafN l = lf
  generalize hb : bN l = b
  generalize hs : kidsN l = s
  generalize hxs : nodesA l = xs
  generalize hT : aexec p tys (csAt k w c lf b s) _ _ _ _ = T
  cbv at hT
  subst hT
  simp only [Tree.ok, RoundOk, Bool.false_eq_true, Bool.true_eq_false, false_implies, true_implies, and_true, true_and]
  subst hp hk hw hc hlf hb hs hxs
  exact ⟨of_b l n, .pure rfl (.inl rfl)⟩
theorem Kids_b (l : List Node) (n : Int) (hn : (nodeAt l n).kids.length ≤ 1000000000) : BCall Try.prog 22 [.ref [.slc 6 (nodesA l)], .val (.int .i64 n)] [] (.slc 1 (intsA (nodeAt l n).kids)) [] := by
  refine bcall_of (cs := csAt (kindN l) (widthN l) (countN l) (leafN l) (bN l) (kidsN l)) (ord := fun _ => .nil) tyOk (by kernel_rfl) Try.func22 rfl (enters_of Try.func22 (by kernel_rfl) rfl) (Nat.le_of_ble_eq_true rfl) (by kernel_rfl) (by kernel_rfl) ?_
  intro w0 g0
  generalize hp : std = p
  generalize hk : kindN l = k
  generalize hw : widthN l = w
  generalize hc : countN l = c
  generalize hlf : leafN l = lf
  generalize hb : bN l = b
  generalize hs : kidsN l = s
  generalize hxs : nodesA l = xs
  generalize hT : aexec p tys (csAt k w c lf b s) _ _ _ _ = T
  cbv at hT
  subst hT
  simp only [Tree.ok, RoundOk, Bool.false_eq_true, Bool.true_eq_false, false_implies, true_implies, and_true, true_and]
  subst hp hk hw hc hlf hb hs hxs
  exact ⟨of_b l n, CloneI_b _ (by simpa [kidsN, intsA] using hn), .pure rfl (.inl rfl)⟩
theorem New_b : BCall Try.prog 27 [] [] (.box 0 0) [.box [.val (.slice none 0 0)]] := by
  refine bcall_new (cs := cs0) (ord := fun _ => .nil) tyOk (by kernel_rfl) Try.func27 rfl (enters_of Try.func27 (by kernel_rfl) rfl) (Nat.le_of_ble_eq_true rfl) (by kernel_rfl) (by kernel_rfl) ?_
  intro w0 g0
  generalize hp : std = p
  generalize hT : aexec p tys (cs0) _ _ _ _ = T
  cbv at hT
  subst hT
  simp only [Tree.ok, RoundOk, Bool.false_eq_true, Bool.true_eq_false, false_implies, true_implies, and_true, true_and]
  subst hp
  exact ⟨[some 0], .box 0 0, _, rfl, rfl, Nat.zero_le _, rfl, ⟨rfl, rfl, trivial⟩, .inl rfl⟩
theorem add_b (xs : List AV) (hn : xs.length < 1000000000) (k w c : Int) (lf : Bool) (b kids : List AV) :
    BCall Try.prog 47 [.box 0 0, .agg [.val (.int .i64 k), .val (.int .i64 w), .val (.int .i64 c), .val (.bool lf), .slc 1 b, .slc 1 kids]] [.box [.row 1 0], .row 74 6 false 0 xs] (.val (.int .i64 xs.length)) [.box [.row 1 1], .row 74 6 false 1 (xs ++ [.agg [.val (.int .i64 k), .val (.int .i64 w), .val (.int .i64 c), .val (.bool lf), .slc 1 b, .slc 1 kids]])] := by
  refine bcall_of (cs := cs0) (ord := fun _ => .nil) tyOk (by kernel_rfl) Try.func47 rfl (enters_of Try.func47 (by kernel_rfl) rfl) (Nat.le_of_ble_eq_true rfl) (by kernel_rfl) (by kernel_rfl) ?_
  intro w0 g0
  generalize hp : std = p
  generalize hT : aexec p tys (cs0) _ _ _ _ = T
  cbv at hT
  subst hT
  simp only [Tree.ok, RoundOk, Bool.false_eq_true, Bool.true_eq_false, false_implies, true_implies, and_true, true_and]
  subst hp
  refine ⟨?_, ?_, [some 0, some 1], .val (.int .i64 xs.length), _, rfl, rfl, Nat.le_refl _, rfl, ?_, .inl rfl⟩
  · simp [std]; omega
  · show (-9223372036854775808 : Int) ≤ _ ∧ _ ≤ (9223372036854775807 : Int)
    simp [std]; omega
  · simp [AllEq, std]
theorem add0_b (k w c : Int) (lf : Bool) (b kids : List AV) :
    BCall Try.prog 47 [.box 0 0, .agg [.val (.int .i64 k), .val (.int .i64 w), .val (.int .i64 c), .val (.bool lf), .slc 1 b, .slc 1 kids]] [.box [.val (.slice none 0 0)]] (.val (.int .i64 0)) [.box [.row 1 1], .row 74 6 false 1 [.agg [.val (.int .i64 k), .val (.int .i64 w), .val (.int .i64 c), .val (.bool lf), .slc 1 b, .slc 1 kids]]] := by
  refine bcall_of (cs := cs0) (ord := fun _ => .nil) tyOk (by kernel_rfl) Try.func47 rfl (enters_of Try.func47 (by kernel_rfl) rfl) (Nat.le_of_ble_eq_true rfl) (by kernel_rfl) (by kernel_rfl) ?_
  intro w0 g0
  generalize hp : std = p
  generalize hT : aexec p tys (cs0) _ _ _ _ = T
  cbv at hT
  subst hT
  simp only [Tree.ok, RoundOk, Bool.false_eq_true, Bool.true_eq_false, false_implies, true_implies, and_true, true_and]
  subst hp
  refine ⟨?_, ?_, [some 0, some 3], .val (.int .i64 0), _, rfl, rfl, Nat.le_succ _, rfl, ?_, .inl rfl⟩
  · simp [std]
  · show (-9223372036854775808 : Int) ≤ _ ∧ _ ≤ (9223372036854775807 : Int)
    simp [std]
  · simp [AllEq, std]
def leafF (kind : Int) (b : List UInt8) : Node := ⟨kind, b.length, 1, true, b, []⟩
def csAdd (p : Pr) : Nat → List AV → List Ob → Option (AV × List Ob) := fun f args ob => match f, args with
  | 47, [.box 0 0, .agg [k, w, c, l, b, s]] => match ob with
    | [.box [.row 1 0], .row 74 6 false 0 xs] => some (.val (.int .i64 (p.len xs)), [.box [.row 1 1], .row 74 6 false 1 (p.app xs [.agg [k, w, c, l, match b with | .val (.slice none 0 0) => .slc 1 [] | b => b, match s with | .val (.slice none 0 0) => .slc 1 [] | s => s]])])
    | [.box [.val (.slice none 0 0)]] => some (.val (.int .i64 0), [.box [.row 1 1], .row 74 6 false 1 [.agg [k, w, c, l, match b with | .val (.slice none 0 0) => .slc 1 [] | b => b, match s with | .val (.slice none 0 0) => .slc 1 [] | s => s]]])
    | _ => none
  | 40, [.slc 1 xs] => some (.slc 1 xs, [])
  | 48, [.slc 1 xs] => some (.slc 1 xs, [])
  | 48, [.val (.slice none 0 0)] => some (.slc 1 [], [])
  | _, _ => none
theorem Leaf_b (l : List Node) (hl : l.length < 1000000000) (kind : Int) (b : List UInt8) (hb : b.length ≤ 1000000000) :
    BCall Try.prog 29 [.box 0 0, .val (.int .i64 kind), .slc 1 (bytesA b)] [.box [.row 1 0], .row 74 6 false 0 (nodesA l)] (.val (.int .i64 l.length)) [.box [.row 1 1], .row 74 6 false 1 (nodesA (l ++ [leafF kind b]))] := by
  refine bcall_of (cs := csAdd std) (ord := fun _ => .nil) tyOk (by kernel_rfl) Try.func29 rfl (enters_of Try.func29 (by kernel_rfl) rfl) (Nat.le_of_ble_eq_true rfl) (by kernel_rfl) (by kernel_rfl) ?_
  intro w0 g0
  generalize hp : std = p
  generalize hbs : bytesA b = bs
  generalize hxs : nodesA l = xs
  generalize hT : aexec p tys (csAdd p) _ _ _ _ = T
  cbv at hT
  subst hT
  simp only [Tree.ok, RoundOk, Bool.false_eq_true, Bool.true_eq_false, false_implies, true_implies, and_true, true_and]
  subst hp hbs hxs
  refine ⟨BytesClone_b _ (by simpa [bytesA] using hb), ?_, [some 0, some 1], .val (.int .i64 l.length), _, rfl, rfl, Nat.le_refl _, rfl, ?_, .inl rfl⟩
  · exact (add_b (nodesA l) (by simpa [nodesA] using hl) kind _ 1 true (bytesA b) []).le ⟨.inl rfl, ⟨.inl rfl, .inl rfl, .inl rfl, .inl rfl, .inl rfl, .inr (.inl ⟨rfl, _, rfl⟩), trivial⟩, trivial⟩
  · simp [AllEq, std, nodesA, leafF, Node.av, bytesA, intsA]
theorem Leaf0_b (kind : Int) (b : List UInt8) (hb : b.length ≤ 1000000000) :
    BCall Try.prog 29 [.box 0 0, .val (.int .i64 kind), .slc 1 (bytesA b)] [.box [.val (.slice none 0 0)]] (.val (.int .i64 0)) [.box [.row 1 1], .row 74 6 false 1 (nodesA [leafF kind b])] := by
  refine bcall_of (cs := csAdd std) (ord := fun _ => .nil) tyOk (by kernel_rfl) Try.func29 rfl (enters_of Try.func29 (by kernel_rfl) rfl) (Nat.le_of_ble_eq_true rfl) (by kernel_rfl) (by kernel_rfl) ?_
  intro w0 g0
  generalize hp : std = p
  generalize hbs : bytesA b = bs
  generalize hT : aexec p tys (csAdd p) _ _ _ _ = T
  cbv at hT
  subst hT
  simp only [Tree.ok, RoundOk, Bool.false_eq_true, Bool.true_eq_false, false_implies, true_implies, and_true, true_and]
  subst hp hbs
  refine ⟨BytesClone_b _ (by simpa [bytesA] using hb), ?_, [some 0, some 1], .val (.int .i64 0), _, rfl, rfl, Nat.le_succ _, rfl, ?_, .inl rfl⟩
  · exact (add0_b kind _ 1 true (bytesA b) []).le ⟨.inl rfl, ⟨.inl rfl, .inl rfl, .inl rfl, .inl rfl, .inl rfl, .inr (.inl ⟨rfl, _, rfl⟩), trivial⟩, trivial⟩
  · simp [AllEq, std, nodesA, leafF, Node.av, bytesA, intsA]
def wsum (l : List Node) (ks : List Int) : Int := (ks.map (widthN l)).sum
def cnt (l : List Node) (ks : List Int) : Int := ks.foldl (fun c k => min (c + countN l k) 2147483647) 1
def branchF (l : List Node) (kind : Int) (ks : List Int) : Node := ⟨kind, wsum l ks, cnt l ks, false, [], ks⟩
theorem wsum_pos {l : List Node} (hw : ∀ n, 0 ≤ widthN l n) (ks : List Int) : 0 ≤ wsum l ks := by
  induction ks with
  | nil => simp [wsum]
  | cons k r ih => have := hw k; simp only [wsum, List.map_cons, List.sum_cons] at ih ⊢; omega
theorem wsum_le {l : List Node} (hw : ∀ n, 0 ≤ widthN l n) (ks : List Int) (n : Nat) : wsum l (ks.take n) ≤ wsum l ks := by
  have h := wsum_pos hw (ks.drop n)
  have e : wsum l ks = wsum l (ks.take n) + wsum l (ks.drop n) := by
    rw [wsum, wsum, wsum, ← List.sum_append, ← List.map_append, List.take_append_drop]
  omega
theorem cnt_range {l : List Node} (hc : ∀ n, 0 ≤ countN l n ∧ countN l n ≤ 2147483647) (ks : List Int) : 0 ≤ cnt l ks ∧ cnt l ks ≤ 2147483647 := by
  have key : ∀ (ks : List Int) (c : Int), 0 ≤ c ∧ c ≤ 2147483647 → 0 ≤ ks.foldl (fun c k => min (c + countN l k) 2147483647) c ∧ ks.foldl (fun c k => min (c + countN l k) 2147483647) c ≤ 2147483647 := by
    intro ks
    induction ks with
    | nil => intro c h; exact h
    | cons k r ih => intro c h; have := hc k; exact ih (min (c + countN l k) 2147483647) (by omega)
  exact key ks 1 (by omega)
set_option maxRecDepth 20000 in
theorem Branch_b (l : List Node) (hl : l.length < 1000000000) (kind : Int) (ks : List Int) (hks : ks.length ≤ 1000000000) (hin : ∀ k ∈ ks, 0 ≤ k ∧ k < l.length) (hw : ∀ n, 0 ≤ widthN l n) (hc : ∀ n, 0 ≤ countN l n ∧ countN l n ≤ 2147483647) (hsum : wsum l ks ≤ 2147483647) :
    BCall Try.prog 52 [.box 0 0, .val (.int .i64 kind), .slc 1 (intsA ks)] [.box [.row 1 0], .row 74 6 false 0 (nodesA l)] (.tup [.val (.int .i64 l.length), .val (.int .i64 0)]) [.box [.row 1 1], .row 74 6 false 1 (nodesA (l ++ [branchF l kind ks]))] := by
  refine bcall_of (cs := csAdd std) (ord := fun _ => .nil) tyOk (by kernel_rfl) Try.func52 rfl (enters_of Try.func52 (by kernel_rfl) rfl) (Nat.le_of_ble_eq_true rfl) (by kernel_rfl) (by kernel_rfl) ?_
  intro w0 g0
  generalize hp : std = p
  generalize hks' : intsA ks = ks'
  generalize hxs : nodesA l = xs
  generalize hT : aexec p tys (csAdd p) _ _ _ _ = T
  cbv at hT
  subst hT
  simp only [Tree.ok, RoundOk, Bool.false_eq_true, Bool.true_eq_false, false_implies, true_implies, and_true, true_and]
  subst hp hks' hxs
  refine ⟨CloneI_b _ (by simpa [intsA] using hks), ?_⟩
  obtain ⟨n, hn⟩ := exLen ks
  refine loop_rule (cs := csAdd std) (ord := fun _ => .nil) tyOk (by kernel_rfl) (by kernel_rfl) (by kernel_rfl) (X := Int) (fun i => ⟨[(0, .box 0 0), (8, .box 2 0), (9, .val (.bool false)), (18, .slc 1 (intsA ks)), (19, .val (.int .i64 n)), (20, .val (.int .i64 i))], [.box [.row 1 0], .row 74 6 false 0 (nodesA l), .box [.val (.int .i64 kind), .val (.int .i64 (wsum l (ks.take i.toNat))), .val (.int .i64 (cnt l (ks.take i.toNat))), .val (.bool false), .val (.slice none 0 0), .slc 1 (intsA ks)]]⟩) (fun i => 0 ≤ i ∧ i ≤ n) (fun i => (n - i).toNat) 0 ?_ ?_ ?_
  · have := hn.eq
    omega
  · exact ⟨[some 0, some 1, some 2], _, rfl, by simp [AllEq, lk, wsum, cnt, std, intsA, hn.eq]⟩
  · rintro i ⟨hi1, hi2⟩
    have en := hn.eq
    have hks' := ints_len ks
    have hls := nodes_len l
    rcases Int.lt_or_eq_of_le hi2 with hlt | heq
    · have hat := ints_at (l := ks) hi1 (en ▸ hlt)
      have hmem : ks[i.toNat]?.getD 0 ∈ ks := by
        have : i.toNat < ks.length := by omega
        simp [this]
      have ht : ks.take (i + 1).toNat = ks.take i.toNat ++ [ks[i.toNat]?.getD 0] := by
        have : i.toNat < ks.length := by omega
        rw [show (i + 1).toNat = i.toNat + 1 by omega, List.take_add_one]
        simp [this]
      have hW2 : wsum l (ks.take (i + 1).toNat) = wsum l (ks.take i.toNat) + widthN l (ks[i.toNat]?.getD 0) := by rw [ht]; simp [wsum]
      have hC2 : cnt l (ks.take (i + 1).toNat) = min (cnt l (ks.take i.toNat) + countN l (ks[i.toNat]?.getD 0)) 2147483647 := by rw [ht]; simp [cnt, List.foldl_append]
      obtain ⟨hk0, hk1⟩ := hin _ hmem
      obtain ⟨k, hk⟩ : ∃ k, k = ks[i.toNat]?.getD 0 := ⟨_, rfl⟩
      rw [← hk] at hat hW2 hC2 hk0 hk1
      have hnd := nodes_at hk0 hk1
      have hWl : wsum l (ks.take i.toNat) + widthN l k ≤ 2147483647 := by
        rw [← hW2]
        exact Int.le_trans (wsum_le hw _ _) hsum
      have hW0 : 0 ≤ wsum l (ks.take i.toNat) := wsum_pos hw _
      have hC0 := cnt_range hc (ks.take i.toNat)
      have hwk := hw k
      have hck := hc k
      simp only [widthN, countN] at hW2 hC2 hWl hwk hck
      obtain ⟨W, hW⟩ : ∃ W, W = wsum l (ks.take i.toNat) := ⟨_, rfl⟩
      obtain ⟨C, hC⟩ : ∃ C, C = cnt l (ks.take i.toNat) := ⟨_, rfl⟩
      rw [← hW] at hW2 hWl hW0 ⊢
      rw [← hC] at hC2 hC0 ⊢
      clear en
      generalize hp : std = p
      generalize hkv : intsA ks = kv
      generalize hxs : nodesA l = xs
      generalize hT : aexec p tys (csAdd p) _ _ _ _ = T
      cbv at hT
      subst hT
      simp only [Tree.ok, RoundOk, Bool.false_eq_true, Bool.true_eq_false, false_implies, true_implies, and_true, true_and]
      subst hp hkv hxs
      have en := hn.eq
      replace hk1 : k < (l.length : Int) := hk1
      repeat' first
        | (with_reducible refine And.intro (fun hx => absurd hx (by (first | (simp [std, allP, AV.cells, intOf, booOf, lstOf, hat, hks', hls, hnd, hk0, hk1, Node.av, hlt]; done) | (simp [std, allP, AV.cells, intOf, booOf, lstOf, hat, hks', hls, hnd, hk0, hk1, Node.av, hlt]; omega) | (refine (inR64 _).2 ?_; (try simp [std, AV.cells, intOf, hat, hks', hls, hnd, hk0, hk1, Node.av, hlt]); omega) | (refine (inR32 _).2 ?_; (try simp [std, AV.cells, intOf, hat, hks', hls, hnd, hk0, hk1, Node.av, hlt]); omega) | omega))) (fun _ => ?_))
        | (with_reducible refine And.intro (fun _ => ?_) (fun hx => absurd hx (by (first | (simp [std, allP, AV.cells, intOf, booOf, lstOf, hat, hks', hls, hnd, hk0, hk1, Node.av, hlt]; done) | (simp [std, allP, AV.cells, intOf, booOf, lstOf, hat, hks', hls, hnd, hk0, hk1, Node.av, hlt]; omega) | (refine (inR64 _).2 ?_; (try simp [std, AV.cells, intOf, hat, hks', hls, hnd, hk0, hk1, Node.av, hlt]); omega) | (refine (inR32 _).2 ?_; (try simp [std, AV.cells, intOf, hat, hks', hls, hnd, hk0, hk1, Node.av, hlt]); omega) | omega))))
        | (with_reducible refine And.intro (by (first | (simp [std, allP, AV.cells, intOf, booOf, lstOf, hat, hks', hls, hnd, hk0, hk1, Node.av, hlt]; done) | (simp [std, allP, AV.cells, intOf, booOf, lstOf, hat, hks', hls, hnd, hk0, hk1, Node.av, hlt]; omega) | (refine (inR64 _).2 ?_; (try simp [std, AV.cells, intOf, hat, hks', hls, hnd, hk0, hk1, Node.av, hlt]); omega) | (refine (inR32 _).2 ?_; (try simp [std, AV.cells, intOf, hat, hks', hls, hnd, hk0, hk1, Node.av, hlt]); omega) | omega)) ?_)
        | (with_reducible refine And.intro ?_ ?_)
        | (with_reducible intro hb)
      all_goals exact ⟨i + 1, ⟨by omega, by omega⟩, by omega, [some 0, some 1, some 2], _, rfl, by simp [AllEq, lk, std, hat, hnd, Node.av, AV.cells, intOf, hW2, hC2]; omega⟩
    · have ht : ks.take i.toNat = ks := List.take_of_length_le (by omega)
      rw [ht]
      have hW0 := wsum_pos hw ks
      have hC0 := cnt_range hc ks
      have hB : branchF l kind ks = ⟨kind, wsum l ks, cnt l ks, false, [], ks⟩ := rfl
      obtain ⟨W, hW⟩ : ∃ W, W = wsum l ks := ⟨_, rfl⟩
      obtain ⟨C, hC⟩ : ∃ C, C = cnt l ks := ⟨_, rfl⟩
      rw [← hW] at hW0 hB ⊢
      rw [← hC] at hC0 hB ⊢
      clear en
      generalize hp : std = p
      generalize hkv : intsA ks = kv
      generalize hxs : nodesA l = xs
      generalize hT : aexec p tys (csAdd p) _ _ _ _ = T
      cbv at hT
      subst hT
      simp only [Tree.ok, RoundOk, Bool.false_eq_true, Bool.true_eq_false, false_implies, true_implies, and_true, true_and]
      subst hp hkv hxs
      repeat' first
        | (with_reducible refine And.intro (fun hx => absurd hx (by (first | (simp [std, allP, AV.cells, intOf, booOf, lstOf, heq]; done) | (simp [std, allP, AV.cells, intOf, booOf, lstOf, heq]; omega) | (refine (inR64 _).2 ?_; (try simp [std, AV.cells, intOf, heq]); omega) | (refine (inR32 _).2 ?_; (try simp [std, AV.cells, intOf, heq]); omega) | omega))) (fun _ => ?_))
        | (with_reducible refine And.intro (fun _ => ?_) (fun hx => absurd hx (by (first | (simp [std, allP, AV.cells, intOf, booOf, lstOf, heq]; done) | (simp [std, allP, AV.cells, intOf, booOf, lstOf, heq]; omega) | (refine (inR64 _).2 ?_; (try simp [std, AV.cells, intOf, heq]); omega) | (refine (inR32 _).2 ?_; (try simp [std, AV.cells, intOf, heq]); omega) | omega))))
        | (with_reducible refine And.intro (by (first | (simp [std, allP, AV.cells, intOf, booOf, lstOf, heq]; done) | (simp [std, allP, AV.cells, intOf, booOf, lstOf, heq]; omega) | (refine (inR64 _).2 ?_; (try simp [std, AV.cells, intOf, heq]); omega) | (refine (inR32 _).2 ?_; (try simp [std, AV.cells, intOf, heq]); omega) | omega)) ?_)
        | (with_reducible refine And.intro ?_ ?_)
        | (with_reducible intro hb)
      rw [if_pos trivial]
      generalize hBv : branchF l kind ks = B at hB ⊢
      generalize hp : std = p
      generalize hkv : intsA ks = kv
      generalize hxs : nodesA l = xs
      generalize hT : aexec p tys (csAdd p) _ _ _ _ = T
      cbv at hT
      subst hT
      simp only [Tree.ok, RoundOk, Bool.false_eq_true, Bool.true_eq_false, false_implies, true_implies, and_true, true_and]
      subst hp hkv hxs
      refine ⟨?_, [some 0, some 1], .tup [.val (.int .i64 l.length), .val (.int .i64 0)], _, rfl, rfl, Nat.le_refl _, rfl, ?_, ?_⟩
      · exact (add_b (nodesA l) (by simpa [nodesA] using hl) kind W C false [] (intsA ks)).le ⟨.inl rfl, ⟨.inl rfl, .inl rfl, .inl rfl, .inl rfl, .inr (.inl ⟨rfl, _, rfl⟩), .inl rfl, trivial⟩, trivial⟩
      · simp [AllEq, std, hls, nodesA, hB, Node.av, bytesA, intsA]
      · exact ⟨.inl rfl, .inl rfl, trivial⟩
end Go.Proofs.Ytblafdmmebiagaa
