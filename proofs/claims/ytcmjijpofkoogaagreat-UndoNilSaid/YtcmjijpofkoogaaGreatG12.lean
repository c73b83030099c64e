/- Lemmas, conditions told -/
import Derived.Test.YtcmjijpofkoogaaGreatG10
import Derived.Test.YtcmjijpofkoogaaGreatG11
import Derived.Lib.Split
set_option linter.unusedSimpArgs false
set_option linter.unusedVariables false
namespace Go.Proofs.YtcmjijpofkoogaaGreat
open Go.RowKit Go.Lib
section
variable {w : World} {g : Gh} {ob : List Ob}
def Gh.kid (g : Gh) (w : World) (id : Nat) (b : Option Nat) (n : Nat) : Gh where
  A b' o := g.A b' o ∨ (b = some b' ∧ o < n)
  G b' := if b = some b' then some id else g.G b'
  loc := g.loc
  sub b' := if b = some b' then true else g.sub b'
theorem kid_get (M : Mem w g ob) {id ep i : Nat} {xs : List AV} (h : ob[id]? = some (.row subT 2 false ep xs)) {b c : Nat} (hv : RowV w g id subT 2 (.slice (some ⟨b, 0, none⟩) xs.length c) xs)
    {a u : AV} (hx : xs[i]? = some (.agg [a, u])) {us : List AV} (hu : u = .slc 1 us ∨ (u = .val (.slice none 0 0) ∧ us = [])) :
    ∃ y zs, w.cell? ⟨b, i * 2 + 1, none⟩ = some y ∧ w.ownsRow 0 kidT 1 y us.length zs ∧ y.oneCell' = true ∧ Alike w g.A zs (flatA us) ∧ (∀ x ∈ us, x.cells.length = 1) ∧ ∀ b', y.ownBlock = some b' → g.G b' = some id ∧ g.sub b' = true ∧ (∀ o, us.length ≤ o → ¬ g.A b' o) ∧ b' < w.heap.size := by
  obtain ⟨ys, ho, hG, hal, hw, hs1, hs2⟩ := hv
  have hil := lt_of_some hx
  have hfl := flat_len xs hw
  have hj : i * 2 + 1 < ys.length := by rw [hal.1, hfl]; omega
  have hyj := List.getElem?_eq_getElem hj
  have hcell := ho.cells (g := b) rfl _ _ hyj
  rw [Addr.add_mid, Nat.zero_add] at hcell
  have huj : (flatA xs)[i * 2 + 1]? = some u := by
    rw [flat_get xs hw i _ hx 1 (by omega)]; rfl
  have hrel := hal.2 _ _ _ hyj huj
  generalize ys[i * 2 + 1] = y at hyj hcell hrel
  obtain ⟨⟨k, zs, h1, h2⟩, h3⟩ := hs2 rfl _ _ hyj (by omega)
  have hone := hrel.one
  -- its length, and its cells by content
  have key : k = us.length ∧ Alike w g.A zs (flatA us) ∧ ∀ x ∈ us, x.cells.length = 1 := by
    rcases hu with rfl | ⟨rfl, rfl⟩
    · cases hrel with
      | nil =>
        rcases h1.2 with ⟨_, h4⟩ | ⟨b', cap, cur, h4, _⟩
        · subst h4
          have : zs = [] := List.eq_nil_of_length_eq_zero (by have := h1.1; omega)
          subst this
          exact ⟨rfl, Alike.nil, fun x hx => by cases hx⟩
        · cases h4
      | slc b' o c' _ _ f hc hm hw' hcl hrl =>
        rcases h1.2 with ⟨h4, _⟩ | ⟨b2, cap, cur, h4, h5⟩
        · cases h4
        · cases h4
          refine ⟨rfl, ?_, hw'⟩
          have hfl2 := flat_len us hw'
          have hzl : zs.length = us.length * 1 := h1.1
          refine ⟨by rw [hzl, hfl2], fun j y' u' hy' hu' => ?_⟩
          have e1 := h1.cells (g := b') rfl j y' hy'
          rw [Addr.add_mid, Nat.zero_add] at e1
          have e2 := (hcl j u' hu').2
          rw [Nat.zero_add, e1] at e2
          obtain rfl : y' = f j := Option.some.inj e2
          exact hrl j u' hu'
    · cases hrel
      rcases h1.2 with ⟨_, h4⟩ | ⟨b', cap, cur, h4, _⟩
      · subst h4
        have : zs = [] := List.eq_nil_of_length_eq_zero (by have := h1.1; omega)
        subst this
        exact ⟨rfl, Alike.nil, fun x hx => by cases hx⟩
      · cases h4
  obtain ⟨rfl, hk2, hk3⟩ := key
  refine ⟨y, zs, hcell, h1, hone, hk2, hk3, fun b' hb' => ?_⟩
  obtain ⟨h4, h5, h6⟩ := h2 b' hb'
  exact ⟨h4, h5, h6, (M.own b' id h4).1⟩
theorem flat_set : ∀ (xs : List AV), (∀ x ∈ xs, x.cells.length = 2) → ∀ (i : Nat) (a u u' : AV), xs[i]? = some (.agg [a, u]) → flatA (xs.set i (.agg [a, u'])) = (flatA xs).set (i * 2 + 1) u'
  | [], _, i, a, u, u', h => by simp at h
  | x :: r, hw, 0, a, u, u', h => by
    obtain rfl : x = .agg [a, u] := by simpa using h
    rfl
  | x :: r, hw, i + 1, a, u, u', h => by
    have ih := flat_set r (fun y hy => hw y (List.mem_cons_of_mem _ hy)) i a u u' (by simpa using h)
    have hx := hw x (List.mem_cons_self ..)
    obtain ⟨p, q, hpq⟩ : ∃ p q, x.cells = [p, q] := by
      match x.cells, hx with
      | [p, q], _ => exact ⟨p, q, rfl⟩
    have e1 : flatA (x :: r) = p :: q :: flatA r := by simp [hpq]
    have e2 : flatA (x :: r.set i (.agg [a, u'])) = p :: q :: flatA (r.set i (.agg [a, u'])) := by simp [hpq]
    rw [List.set_cons_succ, e1, e2, ih, show (i + 1) * 2 + 1 = (i * 2 + 1) + 1 + 1 by omega, List.set_cons_succ, List.set_cons_succ]
set_option maxHeartbeats 1000000 in
theorem kid_set (M : Mem w g ob) {id ep i : Nat} {xs : List AV} (h : ob[id]? = some (.row subT 2 false ep xs)) {b c : Nat} (hv : RowV w g id subT 2 (.slice (some ⟨b, 0, none⟩) xs.length c) xs)
    {a u : AV} (hx : xs[i]? = some (.agg [a, u])) {us : List AV} {y : Value} {zs : List Value} (hcell : w.cell? ⟨b, i * 2 + 1, none⟩ = some y) (hown : w.ownsRow 0 kidT 1 y us.length zs) (hal : Alike w g.A zs (flatA us)) (hus : ∀ x ∈ us, x.cells.length = 1)
    (hyb : ∀ b', y.ownBlock = some b' → g.G b' = some id ∧ g.sub b' = true ∧ (∀ o, us.length ≤ o → ¬ g.A b' o) ∧ b' < w.heap.size)
    {w1 w2 : World} {v' : Value} {n : Int} (hw1 : Below w.heap.size w w1) (ho2 : w2.ownsRow 0 kidT 1 v' (us.length + 1) (zs ++ [.int .i64 n])) (hg : w1.grownBy w2 y.ownBlock) (hvb : v'.ownBlock = y.ownBlock ∨ v'.ownBlock = some w1.heap.size)
    (hc2 : ∀ bb kk, bb < w1.heap.size → (y.ownBlock = some bb → kk < us.length * 1) → w2.cell? ⟨bb, kk, none⟩ = w1.cell? ⟨bb, kk, none⟩) :
    ∃ g3, Mem (w2.setCells b (i * 2 + 1) [v']) g3 (ob.set id (.row subT 2 false (ep + 1) (xs.set i (.agg [a, .slc 1 (us ++ [.val (.int .i64 n)])])))) ∧
      Step w g ob (w2.setCells b (i * 2 + 1) [v']) g3 (ob.set id (.row subT 2 false (ep + 1) (xs.set i (.agg [a, .slc 1 (us ++ [.val (.int .i64 n)])])))) ∧
      RowV (w2.setCells b (i * 2 + 1) [v']) g3 id subT 2 (.slice (some ⟨b, 0, none⟩) xs.length c) (xs.set i (.agg [a, .slc 1 (us ++ [.val (.int .i64 n)])])) := by
  obtain ⟨w3, hw3⟩ : ∃ w3, w3 = w2.setCells b (i * 2 + 1) [v'] := ⟨_, rfl⟩
  obtain ⟨g3, hg3⟩ : ∃ g3, g3 = g.kid w id v'.ownBlock (us.length + 1) := ⟨_, rfl⟩
  rw [← hw3]
  have hid := lt_of_some h
  have hil := lt_of_some hx
  obtain ⟨ys, ho, hG, hya, hyw, hs1, hs2⟩ := hv
  have hGb := hG b rfl
  have hsb := hs1 b rfl
  have hbl := (M.own b id hGb).1
  -- blocks: the main one, the slice's, what is new
  have hyne : ∀ b', y.ownBlock = some b' → b' ≠ b := fun b' hb e => by
    have := (hyb b' hb).2.1
    rw [e, hsb] at this; cases this
  have hvown : ∀ b', v'.ownBlock = some b' → (y.ownBlock = some b' ∧ b' < w.heap.size) ∨ w.heap.size ≤ b' := fun b' hb => by
    rcases hvb with e | e
    · rw [e] at hb; exact .inl ⟨hb, (hyb b' hb).2.2.2⟩
    · rw [e] at hb; cases hb; exact .inr hw1.size
  have keep : ∀ b', b' < w.heap.size → b' ≠ b → y.ownBlock ≠ some b' → w3.heap[b']? = w.heap[b']? := fun b' h1 h2 h3 => by
    rw [hw3, cell_setCells (k := 0) h2, hg.block b' (Nat.lt_of_lt_of_le h1 hw1.size) (fun e => h3 e.symm), hw1.block b' h1]
  have keepc : ∀ b' o, b' < w.heap.size → b' ≠ b → (y.ownBlock = some b' → o < us.length) → w3.cell? ⟨b', o, none⟩ = w.cell? ⟨b', o, none⟩ := fun b' o h1 h2 h3 => by
    rw [hw3, World.cell?_of_block (w := w2) (cell_setCells (k := 0) h2), hc2 b' o (Nat.lt_of_lt_of_le h1 hw1.size) (fun e => by have := h3 e; omega), World.cell?_of_block (w := w) (hw1.block b' h1)]
  have hsz : w.heap.size ≤ w3.heap.size := by
    rw [hw3, size_setCells]
    exact Nat.le_trans hw1.size hg.size
  have nomain : ∀ o, ¬ g.A b o := fun o hA => by
    obtain ⟨et, sz, e, xs2, h1, _⟩ := (M.imm b o hA).2 id hGb hsb
    rw [h] at h1; cases h1
  have hA : ∀ b' o, g.A b' o → w3.cell? ⟨b', o, none⟩ = w.cell? ⟨b', o, none⟩ := fun b' o h1 => by
    refine keepc b' o (M.imm b' o h1).1 (fun e => nomain o (e ▸ h1)) (fun e => ?_)
    refine Nat.lt_of_not_le fun h2 => (hyb b' e).2.2.1 o h2 h1
  have oldG : ∀ b', b' < w.heap.size → g3.G b' = g.G b' := fun b' h1 => by
    rw [hg3]
    show (if v'.ownBlock = some b' then some id else g.G b') = _
    split
    · rename_i e
      rcases hvown b' e with ⟨h2, _⟩ | h2
      · exact ((hyb b' h2).1).symm
      · omega
    · rfl
  have oldS : ∀ b', b' < w.heap.size → g3.sub b' = g.sub b' := fun b' h1 => by
    rw [hg3]
    show (if v'.ownBlock = some b' then true else g.sub b') = _
    split
    · rename_i e
      rcases hvown b' e with ⟨h2, _⟩ | h2
      · exact ((hyb b' h2).2.1).symm
      · omega
    · rfl
  have newA : ∀ b' o, g3.A b' o → g.A b' o ∨ (v'.ownBlock = some b' ∧ o < us.length + 1) := fun b' o h1 => by rw [hg3] at h1; exact h1
  have upA : ∀ b' o, g.A b' o → g3.A b' o := fun b' o h1 => by rw [hg3]; exact .inl h1
  have G3 : ∀ b' k, g3.G b' = some k → (b' < w.heap.size ∧ g.G b' = some k) ∨ (v'.ownBlock = some b' ∧ k = id) := fun b' k h1 => by
    rw [hg3] at h1
    have h1 : (if v'.ownBlock = some b' then some id else g.G b') = some k := h1
    split at h1
    · rename_i e; exact .inr ⟨e, (Option.some.inj h1).symm⟩
    · exact .inl ⟨(M.own b' k h1).1, h1⟩
  have vlt : ∀ b', v'.ownBlock = some b' → b' < w3.heap.size := fun b' hb => by
    rw [hw3, size_setCells]
    exact (ho2.lt b' hb).2
  -- other rows and boxes
  have other : ∀ b' k, g.G b' = some k → k ≠ id → w3.heap[b']? = w.heap[b']? := fun b' k h1 h2 => by
    refine keep b' (M.own b' k h1).1 (fun e => ?_) (fun e => ?_)
    · rw [e, hGb] at h1; exact h2 (Option.some.inj h1).symm
    · rw [(hyb b' e).1] at h1; exact h2 (Option.some.inj h1).symm
  have E : Ext w g ob w3 g3 (ob.set id (.row subT 2 false (ep + 1) (xs.set i (.agg [a, .slc 1 (us ++ [.val (.int .i64 n)])])))) := by
    refine ⟨fun b' o h1 => ⟨upA b' o h1, hA b' o h1⟩, fun _ _ => by rw [hg3]; rfl, fun k hk => ?_, fun k hk => ?_, fun k et sz fz e xs2 hk => ?_, fun b' k hGk hs => ?_⟩
    · have : k ≠ id := by rintro rfl; rw [h] at hk; exact hk
      rw [List.getElem?_set_ne (Ne.symm this)]; exact hk
    · have : k ≠ id := by rintro rfl; rw [h] at hk; exact hk
      rw [List.getElem?_set_ne (Ne.symm this)]; exact hk
    · by_cases e' : k = id
      · subst e'
        rw [h] at hk
        cases hk
        exact ⟨false, ep + 1, _, List.getElem?_set_self hid, by omega, fun h1 => by omega⟩
      · exact ⟨fz, e, xs2, by rw [List.getElem?_set_ne (Ne.symm e')]; exact hk, Nat.le_refl _, fun _ => .inl ⟨rfl, fun b' hb' => ⟨by rw [oldG b' (M.own b' k hb').1]; exact hb', other b' k hb' e'⟩⟩⟩
    · have e' : k ≠ id := by
        rintro rfl
        obtain ⟨et, sz, fz, fz', e, xs2, xs3, h1, h2⟩ := hs
        rw [h] at h1
        cases h1
        rw [List.getElem?_set_self hid] at h2
        have := Option.some.inj h2
        injection this with _ _ _ h3
        omega
      refine ⟨oldS b' (M.own b' k hGk).1, fun _ o h1 => ?_⟩
      rcases newA b' o h1 with h2 | ⟨h2, _⟩
      · exact h2
      · rcases hvown b' h2 with ⟨h3, _⟩ | h3
        · rw [(hyb b' h3).1] at hGk; exact absurd (Option.some.inj hGk).symm e'
        · have := (M.own b' k hGk).1; omega
  have hrow : RowV w3 g3 id subT 2 (.slice (some ⟨b, 0, none⟩) xs.length c) (xs.set i (.agg [a, .slc 1 (us ++ [.val (.int .i64 n)])])) := by
    have hvne : ∀ b', v'.ownBlock = some b' → b' ≠ b := fun b' hb => by
      rcases hvown b' hb with ⟨h1, _⟩ | h1
      · exact hyne b' h1
      · omega
    have hv3 : w3.ownsRow 0 kidT 1 v' (us.length + 1) (zs ++ [.int .i64 n]) := ownsRow_ext ho2 fun b' hb => by rw [hw3]; exact cell_setCells (k := 0) (hvne b' hb)
    have hfl := flat_len xs hyw
    have hjl : i * 2 + 1 < ys.length := by rw [hya.1, hfl]; omega
    have hfs := flat_set xs hyw i a u (.slc 1 (us ++ [.val (.int .i64 n)])) hx
    have hlen' : (us ++ [AV.val (.int .i64 n)]).length = us.length + 1 := by simp
    have hw' : ∀ x ∈ us ++ [AV.val (.int .i64 n)], x.cells.length = 1 := fun x hx => by
      rcases List.mem_append.1 hx with h1 | h1
      · exact hus x h1
      · obtain rfl : x = .val (.int .i64 n) := by simpa using h1
        rfl
    have hfa : flatA (us ++ [AV.val (.int .i64 n)]) = flatA us ++ [.val (.int .i64 n)] := by simp [AV.cells]
    have hal' : Alike w3 g3.A (zs ++ [.int .i64 n]) (flatA (us ++ [AV.val (.int .i64 n)])) := by
      rw [hfa]
      refine (hal.keep E.A).append ⟨rfl, fun j y' u' h1 h2 => ?_⟩
      cases j with
      | zero =>
        obtain rfl : Value.int .i64 n = y' := by simpa using h1
        obtain rfl : AV.val (.int .i64 n) = u' := by simpa using h2
        exact PRel.val _ rfl
      | succ j => simp at h1
    have hvP : PRel w3 g3.A v' (.slc 1 (us ++ [.val (.int .i64 n)])) := by
      rcases hv3.2 with ⟨_, h1⟩ | ⟨b', cap, cur, h1, h2, h3, h4, h5, h6, h7⟩
      · omega
      · subst h1
        rw [← hlen'] at h4 hv3 ⊢
        have hzl : (zs ++ [Value.int .i64 n]).length = (us ++ [AV.val (.int .i64 n)]).length * 1 := hv3.1
        have hfl2 := flat_len (us ++ [AV.val (.int .i64 n)]) hw'
        have get : ∀ (j : Nat) u', (flatA (us ++ [AV.val (.int .i64 n)]))[j]? = some u' → j < (zs ++ [Value.int .i64 n]).length ∧ (zs ++ [Value.int .i64 n])[j]? = some ((zs ++ [Value.int .i64 n]).getD j undef) := fun j u' hu' => by
          have h8 := lt_of_some hu'
          rw [hfl2] at h8
          have h9 : j < (zs ++ [Value.int .i64 n]).length := by omega
          exact ⟨h9, by rw [List.getD_eq_getElem?_getD, List.getElem?_eq_getElem h9]; rfl⟩
        refine PRel.slc b' 0 cap 1 _ (fun j => (zs ++ [Value.int .i64 n]).getD j undef) h4 h5 hw' (fun j u' hu' => ⟨?_, ?_⟩) (fun j u' hu' => ?_)
        · rw [hg3]
          refine .inr ⟨rfl, ?_⟩
          have := (get j u' hu').1
          rw [hzl, hlen'] at this
          omega
        · have := hv3.cells (g := b') rfl j _ (get j u' hu').2
          rw [Addr.add_mid, Nat.zero_add] at this
          rw [Nat.zero_add]; exact this
        · exact hal'.2 j _ u' (get j u' hu').2 hu'
    rcases ho.2 with ⟨h1, _⟩ | ⟨b0, cap, cur, h1, h2, h3, h4, h5, h6, h7⟩
    · cases h1
    · cases h1
      have hh2 : w2.heap[b]? = some (.cells cur subT (0, 0)) := by
        rw [hg.block b (Nat.lt_of_lt_of_le hbl hw1.size) (fun e => hyne b e.symm rfl), hw1.block b hbl]
        exact h3
      have hjc : i * 2 + 1 < cur.size := by
        have : ys.length ≤ cur.size := by rw [← h7, List.length_take]; simp; omega
        omega
      have hh3 := heap_setCells_self (W := w2) [v'] (i * 2 + 1) w2 cur hh2 (by simp; omega)
      have hset : cur.toList.take (i * 2 + 1) ++ ([v'] ++ cur.toList.drop (i * 2 + 1 + [v'].length)) = cur.toList.set (i * 2 + 1) v' := by
        rw [List.set_eq_take_append_cons_drop, if_pos (by simpa using hjc)]
        rfl
      rw [hset] at hh3
      refine ⟨ys.set (i * 2 + 1) v', ⟨by rw [List.length_set, List.length_set]; exact ho.1, .inr ⟨b, c, (cur.toList.set (i * 2 + 1) v').toArray, by rw [List.length_set], Nat.zero_le _, by rw [hw3]; exact hh3, by rw [List.length_set]; exact h4, h5, by simpa using h6, ?_⟩⟩, fun b' hb => ?_, ?_, ?_, fun b' hb => ?_, fun _ j y' hy' hj => ?_⟩
      · rw [List.length_set]
        show ((cur.toList.set (i * 2 + 1) v').toArray.toList).take _ = _
        rw [List.toList_toArray, List.take_set, h7]
      · obtain rfl : b = b' := by simpa [Value.ownBlock] using hb
        rw [oldG b hbl]; exact hGb
      · rw [hfs]
        refine ⟨by rw [List.length_set, List.length_set]; exact hya.1, fun j y' u' h8 h9 => ?_⟩
        by_cases e : j = i * 2 + 1
        · subst e
          rw [List.getElem?_set_self hjl] at h8
          rw [List.getElem?_set_self (by rw [← hya.1]; exact hjl)] at h9
          cases h8; cases h9
          exact hvP
        · rw [List.getElem?_set_ne (Ne.symm e)] at h8 h9
          exact (hya.2 j y' u' h8 h9).keep E.A
      · intro x hx'
        rcases List.mem_or_eq_of_mem_set hx' with h1 | h1
        · exact hyw x h1
        · rw [h1]; rfl
      · obtain rfl : b = b' := by simpa [Value.ownBlock] using hb
        rw [oldS b hbl]; exact hsb
      · have hy0 : ys[i * 2 + 1]? = some y := by
          have e1 := List.getElem?_eq_getElem hjl
          have e2 := ho.cells (g := b) rfl _ _ e1
          rw [Addr.add_mid, Nat.zero_add, hcell] at e2
          rw [e1, ← Option.some.inj e2]
        -- a block that another one owns
        have oldne : ∀ (j : Nat) y', ys[j]? = some y' → j % 2 = 1 → j ≠ i * 2 + 1 → ∀ b', y'.ownBlock = some b' → v'.ownBlock ≠ some b' ∧ y.ownBlock ≠ some b' ∧ b' ≠ b ∧ b' < w.heap.size := fun j y' h8 h9 h10 b' hb => by
          obtain ⟨⟨k, zs', h11, h12⟩, h13⟩ := hs2 rfl j y' h8 h9
          obtain ⟨h14, h15, _⟩ := h12 b' hb
          have hyn : y.ownBlock ≠ some b' := fun e => h10 (h13 _ y b' hy0 (by omega) e hb).symm
          have hlt := (M.own b' id h14).1
          refine ⟨fun e => ?_, hyn, fun e => ?_, hlt⟩
          · rcases hvown b' e with ⟨h16, _⟩ | h16
            · exact hyn h16
            · omega
          · rw [e, hsb] at h15; cases h15
        by_cases e : j = i * 2 + 1
        · subst e
          rw [List.getElem?_set_self hjl] at hy'
          cases hy'
          refine ⟨⟨us.length + 1, _, hv3, fun b' hb => ⟨?_, ?_, fun o ho' hA' => ?_⟩⟩, fun k z b' hz hk hzb hvb' => ?_⟩
          · rw [hg3]
            show (if v'.ownBlock = some b' then some id else g.G b') = _
            rw [if_pos hb]
          · rw [hg3]
            show (if v'.ownBlock = some b' then true else g.sub b') = _
            rw [if_pos hb]
          · rcases newA b' o hA' with h8 | ⟨_, h8⟩
            · rcases hvown b' hb with ⟨h9, _⟩ | h9
              · exact (hyb b' h9).2.2.1 o (by omega) h8
              · have := (M.imm b' o h8).1; omega
            · omega
          · refine Classical.byContradiction fun hne => ?_
            rw [List.getElem?_set_ne (Ne.symm hne)] at hz
            exact (oldne k z hz hk hne b' hzb).1 hvb'
        · rw [List.getElem?_set_ne (Ne.symm e)] at hy'
          obtain ⟨⟨k, zs', h11, h12⟩, h13⟩ := hs2 rfl j y' hy' hj
          refine ⟨⟨k, zs', ownsRow_ext h11 fun b' hb => ?_, fun b' hb => ?_⟩, fun k' z b' hz hk' hzb hyb' => ?_⟩
          · obtain ⟨h8, h9, h10, h14⟩ := oldne j y' hy' hj e b' hb
            exact keep b' h14 h10 h9
          · obtain ⟨h8, h9, h10, h14⟩ := oldne j y' hy' hj e b' hb
            obtain ⟨h15, h16, h17⟩ := h12 b' hb
            refine ⟨by rw [oldG b' h14]; exact h15, by rw [oldS b' h14]; exact h16, fun o ho' hA' => ?_⟩
            rcases newA b' o hA' with h18 | ⟨h18, _⟩
            · exact h17 o ho' h18
            · exact h8 h18
          · by_cases e2 : k' = i * 2 + 1
            · subst e2
              rw [List.getElem?_set_self hjl] at hz
              cases hz
              exact absurd hzb (oldne j y' hy' hj e b' hyb').1
            · rw [List.getElem?_set_ne (Ne.symm e2)] at hz
              exact h13 k' z b' hz hk' hzb hyb'
  refine ⟨g3, ?_, ?_, hrow⟩
  · refine ⟨fun k cs hk => ?_, fun k cs hk j u hj => ?_, fun k y hk => ?_, fun b' k hk => ?_, fun b' o hA' => ?_, fun k et sz fz e xs2 hk => ?_, fun b' hs => ?_, fun b1 b2 k h1 h2 hs hs' => ?_⟩
    · have e' : k ≠ id := by rintro rfl; rw [List.getElem?_set_self hid] at hk; cases hk
      rw [List.getElem?_set_ne (Ne.symm e')] at hk
      obtain ⟨h1, cur, T, h2, h3⟩ := M.box k cs hk
      have hl : g3.loc k = g.loc k := by rw [hg3]; rfl
      exact ⟨by rw [hl, oldG _ (M.own _ _ h1).1]; exact h1, cur, T, by rw [hl, other _ _ h1 e']; exact h2, h3.ext E⟩
    · have e' : k ≠ id := by rintro rfl; rw [List.getElem?_set_self hid] at hk; cases hk
      rw [List.getElem?_set_ne (Ne.symm e')] at hk
      obtain ⟨h1, y', h2, h3⟩ := M.fbox k cs hk j u hj
      have hl : g3.loc k = g.loc k := by rw [hg3]; rfl
      exact ⟨by rw [hl]; exact upA _ _ h1, y', by rw [hl, hA _ _ h1]; exact h2, h3.keep E.A⟩
    · have e' : k ≠ id := by rintro rfl; rw [List.getElem?_set_self hid] at hk; cases hk
      rw [List.getElem?_set_ne (Ne.symm e')] at hk
      obtain ⟨h1, h2⟩ := M.iter k y hk
      have hl : g3.loc k = g.loc k := by rw [hg3]; rfl
      exact ⟨by rw [hl, oldG _ (M.own _ _ h1).1]; exact h1, h2.at E.A E.loc (by simp) (by rw [hl, other _ _ h1 e'])⟩
    · rw [List.length_set]
      rcases G3 b' k hk with ⟨h1, h2⟩ | ⟨h1, rfl⟩
      · exact ⟨Nat.lt_of_lt_of_le h1 hsz, (M.own b' k h2).2⟩
      · exact ⟨vlt b' h1, hid⟩
    · rcases newA b' o hA' with h1 | ⟨h1, h2⟩
      · have h3 := M.imm b' o h1
        refine ⟨Nat.lt_of_lt_of_le h3.1 hsz, fun k hk hs => ?_⟩
        rw [oldG b' h3.1] at hk
        rw [oldS b' h3.1] at hs
        obtain ⟨et, sz, e, xs2, h4, h5⟩ := h3.2 k hk hs
        have e' : k ≠ id := by rintro rfl; rw [h] at h4; cases h4
        exact ⟨et, sz, e, xs2, by rw [List.getElem?_set_ne (Ne.symm e')]; exact h4, h5⟩
      · refine ⟨vlt b' h1, fun k hk hs => ?_⟩
        rw [hg3] at hs
        have hs : (if v'.ownBlock = some b' then true else g.sub b') = false := hs
        rw [if_pos h1] at hs; cases hs
    · by_cases e' : k = id
      · subst e'
        rw [List.getElem?_set_self hid] at hk
        cases hk
        refine ⟨by omega, fun x hx' => ?_⟩
        rcases List.mem_or_eq_of_mem_set hx' with h1 | h1
        · exact hyw x h1
        · rw [h1]; rfl
      · rw [List.getElem?_set_ne (Ne.symm e')] at hk; exact M.roww k _ _ _ _ _ hk
    · rw [hg3] at hs
      have hs : (if v'.ownBlock = some b' then true else g.sub b') = true := hs
      split at hs
      · rename_i h1
        refine ⟨id, _, _, _, _, _, ?_, List.getElem?_set_self hid⟩
        rw [hg3]
        show (if v'.ownBlock = some b' then some id else g.G b') = _
        rw [if_pos h1]
      · obtain ⟨k, et, sz, fz, e, xs2, h1, h2⟩ := M.nsub b' hs
        have h3 : g3.G b' = some k := by rw [oldG b' (M.own b' k h1).1]; exact h1
        by_cases e' : k = id
        · subst e'
          exact ⟨k, _, _, _, _, _, h3, List.getElem?_set_self hid⟩
        · exact ⟨k, et, sz, fz, e, xs2, h3, by rw [List.getElem?_set_ne (Ne.symm e')]; exact h2⟩
    · have main : ∀ b' k, g3.G b' = some k → g3.sub b' = false → g.G b' = some k ∧ g.sub b' = false := fun b' k h1 h2 => by
        rw [hg3] at h1 h2
        have h1 : (if v'.ownBlock = some b' then some id else g.G b') = some k := h1
        have h2 : (if v'.ownBlock = some b' then true else g.sub b') = false := h2
        split at h2
        · cases h2
        · rename_i e
          rw [if_neg e] at h1
          exact ⟨h1, h2⟩
      exact M.uniq b1 b2 k (main b1 k h1 hs).1 (main b2 k h2 hs').1 (main b1 k h1 hs).2 (main b2 k h2 hs').2
  · have hr := setCells_rest b [v'] (i * 2 + 1) w2
    refine ⟨?_, ?_, ?_, hsz, fun b' h1 h2 => ?_, fun b' k hk => ?_, fun b' o hA' => ?_, E, by simp⟩
    · rw [hw3, hr.1, hg.os, hw1.os]
    · rw [hw3, hr.2.1, hg.tape, hw1.tape]
    · rw [hw3, hr.2.2, hg.output, hw1.output]
    · exact keep b' h1 (fun e => by rw [e, hGb] at h2; cases h2) (fun e => by rw [(hyb b' e).1] at h2; cases h2)
    · rcases G3 b' k hk with ⟨_, h2⟩ | ⟨h1, rfl⟩
      · exact .inl ⟨k, h2⟩
      · rcases hvown b' h1 with ⟨h2, _⟩ | h2
        · exact .inl ⟨_, (hyb b' h2).1⟩
        · exact .inr h2
    · rcases newA b' o hA' with h1 | ⟨h1, _⟩
      · exact .inl h1
      · rcases hvown b' h1 with ⟨h2, _⟩ | h2
        · exact .inr (.inl ⟨_, (hyb b' h2).1⟩)
        · exact .inr (.inr h2)
end
end Go.Proofs.YtcmjijpofkoogaaGreat
namespace Go.Proofs.YtcmjijpofkoogaaGreat
open Go.RowKit Go.Lib
section
variable {P : Program} {ops : Array Oper} {R : Exit → Act → World → Prop} {a : Act} {w w' : World} {i : Nat} {rest : List Nat} {o : Oper} {ty : Tys}
theorem wpOps_val {v : Value} (ho : ops[i]? = some o) (hg : o.guard = none) (hr : (execOp a.eval o).run P w = .ok (.value v) w') (h : wpOps P ops R rest (a.put o.dst v) w') : wpOps P ops R (i :: rest) a w := by
  unfold wpOps
  rw [ho]
  simp only [Region.wanted, hg, if_true]
  exact .inl (wp_ok hr h)
theorem wpOps_skip (ho : ops[i]? = some o) (hg : o.guard = none) (hr : (execOp a.eval o).run P w = .ok .skip w') (h : wpOps P ops R rest (a.put o.dst undef) w') : wpOps P ops R (i :: rest) a w := by
  unfold wpOps
  rw [ho]
  simp only [Region.wanted, hg, if_true]
  refine .inl ?_
  unfold Oper.wp
  rw [hr]
  exact h
theorem size_put (d : Nat) (v : Value) : (a.put (some d) v).tmps.size = a.tmps.size := by
  show (a.tmps.setIfInBounds d v).size = _
  simp
theorem eval_put {d : Nat} (h : d < a.tmps.size) (v : Value) (t : Nat) : (a.put (some d) v).eval (.tmp t) = if t = d then v else a.eval (.tmp t) := by
  show (a.tmps.setIfInBounds d v).getD t undef = if t = d then v else a.tmps.getD t undef
  by_cases e : t = d
  · subst e; simp [Array.getD_eq_getD_getElem?, h]
  · rw [if_neg e]
    simp only [Array.getD_eq_getD_getElem?]
    rw [Array.getElem?_setIfInBounds_ne (Ne.symm e)]
structure At (N : Nat) (a : Act) (f : Nat → Value) : Prop where
  defers : a.defers = []
  size : a.tmps.size = N
  ev : ∀ t, a.eval (.tmp t) = f t
theorem At.put {N : Nat} {f : Nat → Value} (h : At N a f) {d : Nat} (hd : d < N) (v : Value) : At N (a.put (some d) v) fun t => if t = d then v else f t :=
  ⟨h.defers, by rw [size_put]; exact h.size, fun t => by rw [eval_put (by rw [h.size]; exact hd)]; rw [h.ev]⟩
theorem run_move {x : Operand} (ho : o.op = .move x ∨ o.op = .assign x) : (execOp a.eval o).run P w = .ok (.value (a.eval x)) w := by
  rcases ho with ho | ho <;> simp only [execOp, ho] <;> rfl
theorem run_nilCheck' {x : Operand} {ad : Addr} (ho : o.op = .nilCheck x) (hv : a.eval x = .pointer (some ad)) : (execOp a.eval o).run P w = .ok (.value (.pointer (some ad))) w := by
  simp only [execOp, ho, hv] <;> rfl
theorem run_fieldAddr (hT : TyOk P ty) {T : Nat} {x : Operand} {f off t b u : Nat} (ho : o.op = .fieldAddr T x f) (hf : (tyLook T ty).flds[f]? = some (off, t)) (hfo : fOk ty t = true)
    (hv : a.eval x = .pointer (some ⟨b, u, none⟩)) : (execOp a.eval o).run P w = .ok (.value (.pointer (some ⟨b, u + off, none⟩))) w := by
  obtain ⟨fs, fd, h1, h2, h3⟩ := (ty_fld hT hf).strct' hf
  obtain ⟨rfl, rfl⟩ : off = fd.offset ∧ t = fd.type := by simpa using h3
  simp only [fOk, Bool.and_eq_true, bne_iff_ne, ne_eq] at hfo
  have hs := (ty_ok hT hfo.1).size w
  simp only [execOp, ho]
  refine run_valW ?_
  rw [hv]
  simp [Instr.fieldAt, run_underlying h1, h2, Instr.sureAddr, fieldPlace, hs, hfo.2, Addr.add_mid]
theorem run_load1 (hT : TyOk P ty) {T : Nat} {x : Operand} {b u : Nat} {y : Value} (ho : o.op = .load T x) (hok : (tyLook T ty).ok = true) (hag : (tyLook T ty).agg = false)
    (hv : a.eval x = .pointer (some ⟨b, u, none⟩)) (hc : w.cell? ⟨b, u, none⟩ = some y) : (execOp a.eval o).run P w = .ok (.value y) w := by
  have := (ty_ok hT hok).isAgg w
  rw [hag] at this
  simp only [execOp, ho]
  refine run_valW ?_
  rw [hv]
  simp [Instr.loadAt, Instr.sureAddr, loadVar, this, hc]
theorem run_store1 (hT : TyOk P ty) {T : Nat} {x y : Operand} {b u : Nat} {v : Value} (ho : o.op = .store T x y) (hok : (tyLook T ty).ok = true) (hsz : (tyLook T ty).size = 1)
    (hv : a.eval x = .pointer (some ⟨b, u, none⟩)) (hy : a.eval y = v) (h1 : v.oneCell' = true) {z : Value} (hc : w.cell? ⟨b, u, none⟩ = some z) (hf : w.frozen? ⟨b, u, none⟩ = false) :
    (execOp a.eval o).run P w = .ok .skip (w.setCells b u [v]) := by
  have hst := run_storeCells_cells (P := P) b u [v] 0 w (fun j hj => by
    obtain rfl : j = 0 := by simpa using hj
    show (w.cell? ⟨b, u, none⟩).isSome = true
    rw [hc]; rfl) (fun j hj => by
    obtain rfl : j = 0 := by simpa using hj
    exact hf) (fun v' hv' => by
    obtain rfl : v' = v := by simpa using hv'
    exact h1)
  rw [Nat.add_zero] at hst
  have hsT := (ty_ok hT hok).size w
  rw [hsz] at hsT
  have hcl : v.cells = #[v] := one_cells h1
  simp only [execOp, ho, Instr.storeAt, hv, hy, Instr.sureAddr, storeVar, Sem.run_bind, Sem.run_pure, Result.andThen_ok, hsT, hcl]
  simp [hst]
theorem run_app {x y : Operand} {T U : Nat} {v : Value} (ho : o.op = .call { callee := .builtin .append, args := #[x, y], argTypes := #[T, U] }) (hr : (Builtin.append_ #[T, U] o.type #[a.eval x, a.eval y]).run P w = .ok v w') :
    (execOp a.eval o).run P w = .ok (.value v) w' := by
  obtain ⟨cs, hc⟩ := exec_builtin (P := P) (a := a) ho w
  rw [hc]
  show (do pure (Next.value (← Builtin.append_ #[T, U] o.type (Array.map a.eval #[x, y]))) : Sem Next).run P w = _
  refine run_valW ?_
  simpa using hr
end
section
variable {Df : List Deferred} {w0 : World} {g0 : Gh} {o0 : List Ob}
theorem setCells_same {w : World} {b o : Nat} {v : Value} {cur : Array Value} {T : TypeId} {fr : Nat × Nat} (h : w.heap[b]? = some (.cells cur T fr)) (hv : cur[o]? = some v) : w.setCells b o [v] = w := by
  have e : cur.setIfInBounds o v = cur := by
    apply Array.ext'
    refine List.ext_getElem? fun j => ?_
    rw [Array.getElem?_toList, Array.getElem?_toList, Array.getElem?_setIfInBounds]
    split
    · rename_i e; subst e
      split
      · exact hv.symm
      · rename_i hn; rw [Array.getElem?_eq_none (by omega)]
    · rfl
  show ({ w with heap := _ } : World) = w
  have e2 : (w.heap.modify b fun
      | .cells c elem frozen => .cells (if (none : Option Nat).isSome then c else c.setIfInBounds o v) elem frozen
      | o => o) = w.heap := by
    apply Array.ext'
    refine List.ext_getElem? fun j => ?_
    rw [Array.getElem?_toList, Array.getElem?_toList, Array.getElem?_modify]
    split
    · rename_i e3; subst e3
      rw [h]
      simp [e]
    · rfl
  exact congrArg (fun x => ({ w with heap := x } : World)) e2
theorem sim_start {ob : List Ob} {args : List AV} {g : Gh} {w : World} {vs : List Value} {N : Nat} (M : Mem w g ob) (hL : ARelL w g ob vs args) (hn : args.length ≤ N) :
    Sim [] w g ob N ⟨ent 0 args, ob⟩ { tmps := vs.toArray ++ Array.replicate (N - vs.toArray.size) undef, defers := [] } w := by
  have hlen : vs.length = args.length := hL.1
  refine ⟨rfl, ?_, g, M, fun t => ?_, Step.refl⟩
  · simp; omega
  · show ARel w g ob _ (lk t (ent 0 args))
    rw [lk_ent]
    simp only [Nat.zero_le, if_true, Nat.sub_zero]
    by_cases ht : t < args.length
    · rw [List.getD_eq_getElem?_getD, List.getElem?_eq_getElem ht, Option.getD_some]
      have e : (vs.toArray ++ Array.replicate (N - vs.toArray.size) undef).getD t undef = vs[t]'(by omega) := by
        rw [Array.getD_eq_getD_getElem?, Array.getElem?_append_left (by simp; omega)]
        simp [show t < vs.length by omega]
      rw [e]
      exact (hL.2 t _ _ (List.getElem?_eq_getElem (by omega)) (List.getElem?_eq_getElem ht)).to
    · rw [List.getD_eq_getElem?_getD, List.getElem?_eq_none (by omega)]
      trivial
end
theorem results_none {P : Program} {fn : Func} (h : fn.results = #[]) (tmps : Array Value) (w : World) : (results fn tmps).run P w = .ok (.tuple #[]) w := by
  simp [results, h]
noncomputable def kidR0 : Code := match Tryz.f80.body with | some (.seq c _) => c | _ => .skip
noncomputable def kidR1 : Code := match Tryz.f80.body with | some (.seq _ c) => c | _ => .skip
def kidQ (ob : List Ob) (k : Nat) (i n : Int) (e : Ex) (s : St) : Prop := e = .normal ∧ s.ob = ob ∧ lk 4 s.tm = .rptr k 0 i 0 ∧ lk 1 s.tm = .val (.int .i64 n)
set_option maxRecDepth 20000 in
set_option maxHeartbeats 4000000 in
theorem kid_any {ob : List Ob} {k : Nat} {bs tp : AV} {xs : List AV} (hb : ob[0]? = some (.box [bs, tp, .row k 0])) (hk : ob[k]? = some (.row subT 2 false 0 xs)) {i n : Int}
    (hr0 : ∀ w0 g0, (aexec std tys cs0 (fun _ => .nil) kidR0 (fun e s => .leaf e s) ⟨ent 0 [.box 0 0, .val (.int .i64 n)], ob⟩).ok [] Tryz.prog w0 g0 ob 26 (kidQ ob k i n))
    {a u : AV} {us : List AV} (hi : 0 ≤ i) (hx : xs[i.toNat]? = some (.agg [a, u])) (hu : u = .slc 1 us ∨ (u = .val (.slice none 0 0) ∧ us = [])) (hul : us.length ≤ 1000000) :
    BCall Tryz.prog 80 [.box 0 0, .val (.int .i64 n)] ob (.tup []) ((ob.set k (.row subT 2 false 1 (xs.set i.toNat (.agg [a, .slc 1 (us ++ [.val (.int .i64 n)])])))).set 0 (.box [bs, tp, .row k 1])) := by
  refine ⟨enters_of Tryz.func80 (by kernel_rfl) rfl, fun w0 g0 vs M0 hL => calls_of_wp Tryz.func80 (c := .seq kidR0 kidR1) rfl ?_⟩
  refine wp_seq (aexec_sound (w0 := w0) (g0 := g0) (o0 := ob) (N := 26) (Q := kidQ ob k i n) (cs := cs0) (ord := fun _ => .nil) tyOk (by kernel_rfl) kidR0 (fun e s => .leaf e s) _ ⟨ent 0 [.box 0 0, .val (.int .i64 n)], ob⟩ _ w0 (by kernel_rfl) (by kernel_rfl) (fun c a d v w h => h) (fun e s ac w _ hs hq => ?_) (fun v s a w _ _ h => nomatch h.1) (sim_start M0 hL (Nat.le_of_ble_eq_true rfl)) (hr0 w0 g0))
  obtain ⟨rfl, hob, h4, h1⟩ := (show kidQ ob k i n e s from hq)
  show kidR1.wp _ _ ac w
  refine wp_region ?_
  show wpOps _ _ _ [0, 1, 2, 3, 4, 5, 6, 7, 8, 9, 10] ac w
  obtain ⟨hdf, hsz, g, M, hS, h0⟩ := hs
  rw [hob] at M h0
  have hk0 : k ≠ 0 := by rintro rfl; rw [hb] at hk; cases hk
  -- what the slots hold
  have hp := hS 4
  rw [h4, hob] at hp
  obtain ⟨_, et, sz, fz, ee, xs', hob', _, hp2⟩ := (show ARel0 w g ob _ (.rptr k 0 i 0) from hp)
  rw [hk] at hob'
  cases hob'
  obtain ⟨b, c, hpv, _, hil, hRV⟩ := hp2 rfl
  have hn := hS 1
  rw [h1] at hn
  have hnv := hn.valEq
  -- the maker's box
  obtain ⟨hG0, cur, T0, hh0, hc0⟩ := M.box 0 _ hb
  have hcl : cur.toList.length = 3 := hc0.1
  obtain ⟨v, hv⟩ : ∃ v, cur.toList[2]? = some v := ⟨_, List.getElem?_eq_getElem (by omega)⟩
  obtain ⟨⟨hv1, et, sz, fz, ee, xs', hob', _, hv2⟩, _⟩ := hc0.2 2 v (.row k 0) hv rfl
  rw [hk] at hob'
  cases hob'
  have hRB := hv2 rfl
  obtain ⟨ysP, hoP, hGP, _, _, hsP, _⟩ := hRV
  obtain ⟨ysB, hoB, hGB, _, _, hsB, _⟩ := (show RowV w g k subT 2 v xs from hRB)
  rcases hoB.2 with ⟨_, h00⟩ | ⟨bB, cap, curB, rfl, _, hhB, _, _, _, _⟩
  · omega
  obtain rfl : b = bB := M.uniq _ _ k (hGP b rfl) (hGB bB rfl) (hsP b rfl) (hsB bB rfl)
  obtain ⟨y, zs, hcell, hown, hone, hal, hus, hyb⟩ := kid_get M hk hRB hx hu
  have hGb := hGB b rfl
  have hbl := (M.own b k hGb).1
  have hyne : y.ownBlock ≠ some b := fun e => by
    have := (hyb b e).2.1
    rw [hsB b rfl] at this; cases this
  have h0ne : g.loc 0 ≠ b := fun e => by
    rw [e, hGb] at hG0
    exact hk0 (Option.some.inj hG0)
  have h0ny : y.ownBlock ≠ some (g.loc 0) := fun e => by
    have := (hyb _ e).1
    rw [hG0] at this
    exact hk0 (Option.some.inj this).symm
  -- one operation after the other
  have A0 : At 26 ac (fun t => ac.eval (.tmp t)) := ⟨hdf, hsz, fun _ => rfl⟩
  have e4 : ac.eval (.tmp 4) = .pointer (some ⟨b, i.toNat * 2 + 0, none⟩) := hpv
  have e1 : ac.eval (.tmp 1) = .int .i64 n := hnv
  generalize hPV : Value.pointer (some ⟨b, i.toNat * 2 + 0, none⟩) = PV at e4
  refine wpOps_val rfl rfl (run_move (x := .tmp 4) (.inl rfl)) ?_
  rw [e4]
  show wpOps _ _ _ [1, 2, 3, 4, 5, 6, 7, 8, 9, 10] (ac.put (some 16) PV) w
  have A1 := A0.put (d := 16) (by decide) PV
  generalize ac.put (some 16) PV = a1 at A1 ⊢
  refine wpOps_val rfl rfl (run_move (x := .tmp 4) (.inl rfl)) ?_
  rw [show a1.eval (.tmp 4) = PV by rw [A1.ev]; exact e4]
  show wpOps _ _ _ [2, 3, 4, 5, 6, 7, 8, 9, 10] (a1.put (some 17) PV) w
  have A2 := A1.put (d := 17) (by decide) PV
  generalize a1.put (some 17) PV = a2 at A2 ⊢
  refine wpOps_val rfl rfl (run_nilCheck' (x := .tmp 17) (ad := ⟨b, i.toNat * 2 + 0, none⟩) rfl (by rw [A2.ev, hPV]; rfl)) ?_
  rw [hPV]
  show wpOps _ _ _ [3, 4, 5, 6, 7, 8, 9, 10] (a2.put (some 18) PV) w
  have A3 := A2.put (d := 18) (by decide) PV
  generalize a2.put (some 18) PV = a3 at A3 ⊢
  refine wpOps_val rfl rfl (run_fieldAddr tyOk (x := .tmp 18) (off := 1) (t := 32) rfl (by kernel_rfl) (by kernel_rfl) (b := b) (u := i.toNat * 2 + 0) (by rw [A3.ev, hPV]; rfl)) ?_
  rw [Nat.add_zero]
  generalize hFV : Value.pointer (some ⟨b, i.toNat * 2 + 1, none⟩) = FV
  show wpOps _ _ _ [4, 5, 6, 7, 8, 9, 10] (a3.put (some 19) FV) w
  have A4 := A3.put (d := 19) (by decide) FV
  generalize a3.put (some 19) FV = a4 at A4 ⊢
  refine wpOps_val rfl rfl (run_load1 tyOk (x := .tmp 19) rfl (by kernel_rfl) (by kernel_rfl) (b := b) (u := i.toNat * 2 + 1) (by rw [A4.ev, hFV]; rfl) hcell) ?_
  show wpOps _ _ _ [5, 6, 7, 8, 9, 10] (a4.put (some 20) y) w
  have A5 := A4.put (d := 20) (by decide) y
  generalize a4.put (some 20) y = a5 at A5 ⊢
  refine wpOps_val rfl rfl (run_move (x := .tmp 1) (.inl rfl)) ?_
  rw [show a5.eval (.tmp 1) = .int .i64 n by rw [A5.ev]; exact e1]
  generalize hNV : Value.int .i64 n = NV
  show wpOps _ _ _ [6, 7, 8, 9, 10] (a5.put (some 21) NV) w
  have A6 := A5.put (d := 21) (by decide) NV
  generalize a5.put (some 21) NV = a6 at A6 ⊢
  -- the slice of one number
  obtain ⟨e, hu25, hee, te, hes, _⟩ := el_facts tyOk (T := 32) (sz := 1) (by kernel_rfl)
  obtain ⟨ie, z, hie, hies, hieb, hiz, hzc, _⟩ := te.i
  have hek : e = kidT := hee.trans (by kernel_rfl)
  rw [hes] at hies
  have hzs : z.cells.size = 1 := by
    have := congrArg List.length hzc
    rw [Array.length_toList, te.zl, hes] at this
    exact this
  have hN1 : NV.cells = #[NV] := by rw [← hNV]; rfl
  obtain ⟨c', hf, hc'⟩ := fillDense (sz := 1) [NV] 0 ((Array.range (1 * 1)).map (z.cells[· % z.cells.size]!)) (fun v' hv' => by
    obtain rfl : v' = NV := by simpa using hv'
    rw [hN1]; rfl) (by simp)
  obtain rfl : c' = #[NV] := by
    apply Array.ext'
    rw [hc']
    simp [hN1]
  have hrB : (Instr.buildSlice 32 1 #[(0, NV)]).run Tryz.prog w = .ok (.slice (some ⟨w.heap.size, 0, none⟩) 1 1) (w.alloc (.cells #[NV] e)) :=
    run_buildSlice w 32 e 1 _ _ ie z hu25 hie hiz (by rw [hies]; decide) (by rw [hies]; decide) (by rw [hies]; exact hf)
  refine wpOps_val (w' := w.alloc (.cells #[NV] e)) (v := .slice (some ⟨w.heap.size, 0, none⟩) 1 1) rfl rfl (by
    simp only [execOp]
    refine run_valW ?_
    have : (#[(0, Operand.tmp 21)].map fun (x : Nat × Operand) => (x.1, a6.eval x.2)) = #[(0, NV)] := by
      simp [A6.ev]
    rw [← this] at hrB
    exact hrB) ?_
  have hhN : (w.alloc (.cells #[NV] e)).heap[w.heap.size]? = some (.cells #[NV] e (0, 0)) := heap_new w _
  have hB1 : Below w.heap.size w (w.alloc (.cells #[NV] e)) := (Below.refl _ w).alloc (Nat.le_refl _) _
  have hold : ∀ b', b' < w.heap.size → (w.alloc (.cells #[NV] e)).heap[b']? = w.heap[b']? := fun b' h => heap_old h
  generalize hSV : Value.slice (some ⟨w.heap.size, 0, none⟩) 1 1 = SV
  show wpOps _ _ _ [7, 8, 9, 10] (a6.put (some 22) SV) _
  generalize w.alloc (.cells #[NV] e) = w1 at hhN hB1 hold ⊢
  have A7 := A6.put (d := 22) (by decide) SV
  generalize a6.put (some 22) SV = a7 at A7 ⊢
  obtain ⟨v', w2, hrA, ho2, hg, hvb, hc2⟩ := append_any (P := Tryz.prog) (w := w1) (t := 32) (u := 32) (ty := 32) hu25 hu25 (.inl ⟨_, rfl⟩) hie hiz hies (by rw [hieb]; exact te.by_) hzs
    (ownsRow_ext (hek ▸ hown) fun b' hb' => hold b' (hyb b' hb').2.2.2) (x := SV) (m := 1) (news := [NV]) rfl (fun W => by rw [← hSV]; rfl)
    (fun W hW => by
      rw [← hSV]
      refine run_firstCells_some (P := Tryz.prog) W 1 1 _ _ _ [NV] rfl (fun j u hj => ?_)
      cases j with
      | zero =>
        obtain rfl : NV = u := by simpa using hj
        show W.cell? ⟨w.heap.size, 0 + 0, none⟩ = _
        simp [World.cell?, hW, hhN]
      | succ j => simp at hj) (fun u hu => by
      obtain rfl : u = NV := by simpa using hu
      rw [← hNV]; rfl) (by omega)
  refine wpOps_val rfl rfl (run_app (x := .tmp 20) (y := .tmp 22) rfl (by
    rw [show a7.eval (.tmp 20) = y by rw [A7.ev]; rfl, show a7.eval (.tmp 22) = SV by rw [A7.ev]; rfl]
    exact hrA)) ?_
  show wpOps _ _ _ [8, 9, 10] (a7.put (some 23) v') w2
  have A8 := A7.put (d := 23) (by decide) v'
  generalize a7.put (some 23) v' = a8 at A8 ⊢
  refine wpOps_val rfl rfl (run_nilCheck' (x := .tmp 16) (ad := ⟨b, i.toNat * 2 + 0, none⟩) rfl (by rw [A8.ev, hPV]; rfl)) ?_
  rw [hPV]
  show wpOps _ _ _ [9, 10] (a8.put (some 24) PV) w2
  have A9 := A8.put (d := 24) (by decide) PV
  generalize a8.put (some 24) PV = a9 at A9 ⊢
  refine wpOps_val rfl rfl (run_fieldAddr tyOk (x := .tmp 24) (off := 1) (t := 32) rfl (by kernel_rfl) (by kernel_rfl) (b := b) (u := i.toNat * 2 + 0) (by rw [A9.ev, hPV]; rfl)) ?_
  rw [Nat.add_zero, hFV]
  show wpOps _ _ _ [10] (a9.put (some 25) FV) w2
  have A10 := A9.put (d := 25) (by decide) FV
  generalize a9.put (some 25) FV = a10 at A10 ⊢
  have hh2 : w2.heap[b]? = w.heap[b]? := by
    rw [hg.block b (Nat.lt_of_lt_of_le hbl hB1.size) (fun e => hyne e.symm), hold b hbl]
  have hv'1 : v'.oneCell' = true := by
    rcases ho2.2 with ⟨_, h00⟩ | ⟨b', cap', cur', rfl, _⟩
    · omega
    · rfl
  refine wpOps_skip (w' := w2.setCells b (i.toNat * 2 + 1) [v']) rfl rfl (run_store1 tyOk (x := .tmp 25) (y := .tmp 23) rfl (by kernel_rfl) (by kernel_rfl) (by rw [A10.ev, hFV]; rfl) (by rw [A10.ev]; rfl) hv'1 (z := y)
    (by rw [World.cell?_of_block (w := w) hh2]; exact hcell) (by simp [World.frozen?, hh2, hhB])) ?_
  obtain ⟨g3, M3, S3, R3⟩ := kid_set M hk hRB hx hcell hown hal hus hyb (n := n) hB1 (hNV ▸ hek ▸ ho2) hg hvb hc2
  generalize hw3 : w2.setCells b (i.toNat * 2 + 1) [v'] = w3 at M3 S3 R3 ⊢
  have hb3 : (ob.set k (.row subT 2 false (0 + 1) (xs.set i.toNat (.agg [a, .slc 1 (us ++ [.val (.int .i64 n)])]))))[0]? = some (.box [bs, tp, .row k 0]) := by
    rw [List.getElem?_set_ne hk0]; exact hb
  have hl0 : g3.loc 0 = g.loc 0 := S3.ext.loc 0 (lt_of_some hb)
  have hh3 : w3.heap[g.loc 0]? = some (.cells cur T0 (0, 0)) := by
    have hlt := (M.own _ _ hG0).1
    rw [← hw3, cell_setCells (k := 0) h0ne, hg.block _ (Nat.lt_of_lt_of_le hlt hB1.size) (fun e => h0ny e.symm), hold _ hlt]
    exact hh0
  have M4 := M3.store hb3 (off := 2) (vs := [Value.slice (some ⟨b, 0, none⟩) xs.length cap]) (us := [.row k 1]) ⟨rfl, fun j y' u' hy' hu' => by
    cases j with
    | zero =>
      obtain rfl : Value.slice (some ⟨b, 0, none⟩) xs.length cap = y' := by simpa using hy'
      obtain rfl : AV.row k 1 = u' := by simpa using hu'
      exact ⟨⟨rfl, subT, 2, false, 1, _, List.getElem?_set_self (lt_of_some hk), Nat.le_refl _, fun _ => by
        have hlx : (xs.set i.toNat (.agg [a, .slc 1 (us ++ [.val (.int .i64 n)])])).length = xs.length := by rw [List.length_set]
        exact R3⟩, rfl⟩
    | succ j => simp at hy'⟩ (Nat.le_refl _)
  have S4 := Step.store M3 hb3 2 [Value.slice (some ⟨b, 0, none⟩) xs.length cap] [bs, tp, .row k 1]
  rw [hl0, setCells_same hh3 (by rw [← Array.getElem?_toList]; exact hv)] at M4 S4
  show bodyPost _ _ _ .normal _ _
  subst hNV
  exact ⟨A10.defers, _, results_none rfl _ _, _, g3, rfl, M4, ⟨#[], rfl, rfl, fun j y' u' h => by simp at h⟩, (h0.trans S3).trans S4⟩
end Go.Proofs.YtcmjijpofkoogaaGreat
namespace Go.Proofs.YtcmjijpofkoogaaGreat
open Go.RowKit Go.Lib
structure Node where
  kind : Int
  width : Int
  count : Int
  leaf : Bool
  b : List UInt8
  kids : List Int
  deriving Inhabited
def Node.av (x : Node) : AV := .agg [.val (.int .i64 x.kind), .val (.int .i64 x.width), .val (.int .i64 x.count), .val (.bool x.leaf), .slc 1 (bytesA x.b), .slc 1 (intsA x.kids)]
def nodesA (l : List Node) : List AV := l.map Node.av
theorem nodes_len (l : List Node) : (nodesA l).length = l.length := by simp [nodesA]
def node0 : Node := ⟨0, 0, 0, false, [], []⟩
def nodeAt (l : List Node) (n : Int) : Node := if 0 ≤ n ∧ n < l.length then l[n.toNat]?.getD node0 else node0
theorem nodes_at {l : List Node} {n : Int} (h0 : 0 ≤ n) (h1 : n < l.length) : (nodesA l)[n.toNat]?.getD .dead = (nodeAt l n).av := by
  rw [nodeAt, if_pos ⟨h0, h1⟩]
  exact getA Node.av h0 h1 node0
def kindN (l : List Node) (n : Int) : Int := (nodeAt l n).kind
def widthN (l : List Node) (n : Int) : Int := (nodeAt l n).width
def countN (l : List Node) (n : Int) : Int := (nodeAt l n).count
set_option maxRecDepth 20000 in
theorem New_b : BCall Tryz.prog 79 [] [] (.box 0 0) [.box [.val (.slice none 0 0)]] := by
  refine fnO true (cs0) (fun _ => .nil) Tryz.func79 rfl fun _ _ => ?_
  with_reducible refine cv0 ?_
  exact ⟨[some 0], .box 0 0, _, rfl, rfl, Nat.zero_le _, rfl, ⟨rfl, rfl, trivial⟩, .inl rfl⟩
set_option maxRecDepth 20000 in
theorem add_b (xs : List AV) (hn : xs.length < 1000000000) (k w c : Int) (lf : Bool) (b kids : List AV) :
    BCall Tryz.prog 119 [.box 0 0, .agg [.val (.int .i64 k), .val (.int .i64 w), .val (.int .i64 c), .val (.bool lf), .slc 1 b, .slc 1 kids]] [.box [.row 1 0], .row 230 6 false 0 xs] (.val (.int .i64 xs.length)) [.box [.row 1 1], .row 230 6 false 1 (xs ++ [.agg [.val (.int .i64 k), .val (.int .i64 w), .val (.int .i64 c), .val (.bool lf), .slc 1 b, .slc 1 kids]])] := by
  refine fnN (cs0) Tryz.func119 rfl fun _ _ => ?_
  with_reducible refine cv0 ?_
  refine ⟨?_, ?_, [some 0, some 1], .val (.int .i64 xs.length), _, rfl, rfl, Nat.le_refl _, rfl, ?_, .inl rfl⟩
  · simp [std]; omega
  · show (-9223372036854775808 : Int) ≤ _ ∧ _ ≤ (9223372036854775807 : Int)
    simp [std]; omega
  · simp [AllEq, std]
set_option maxRecDepth 20000 in
theorem add0_b (k w c : Int) (lf : Bool) (b kids : List AV) :
    BCall Tryz.prog 119 [.box 0 0, .agg [.val (.int .i64 k), .val (.int .i64 w), .val (.int .i64 c), .val (.bool lf), .slc 1 b, .slc 1 kids]] [.box [.val (.slice none 0 0)]] (.val (.int .i64 0)) [.box [.row 1 1], .row 230 6 false 1 [.agg [.val (.int .i64 k), .val (.int .i64 w), .val (.int .i64 c), .val (.bool lf), .slc 1 b, .slc 1 kids]]] := by
  refine fnN (cs0) Tryz.func119 rfl fun _ _ => ?_
  with_reducible refine cv0 ?_
  refine ⟨?_, ?_, [some 0, some 3], .val (.int .i64 0), _, rfl, rfl, Nat.le_succ _, rfl, ?_, .inl rfl⟩
  · simp [std]
  · show (-9223372036854775808 : Int) ≤ _ ∧ _ ≤ (9223372036854775807 : Int)
    simp [std]
  · simp [AllEq, std]
def leafF (kind : Int) (b : List UInt8) : Node := ⟨kind, b.length, 1, true, b, []⟩
def csAdd (p : Pr) : Nat → List AV → List Ob → Option (AV × List Ob) := fun f args ob => match f, args with
  | 119, [.box 0 0, .agg [k, w, c, l, b, s]] => match ob with
    | [.box [.row 1 0], .row 230 6 false 0 xs] => some (.val (.int .i64 (p.len xs)), [.box [.row 1 1], .row 230 6 false 1 (p.app xs [.agg [k, w, c, l, match b with | .val (.slice none 0 0) => .slc 1 [] | b => b, match s with | .val (.slice none 0 0) => .slc 1 [] | s => s]])])
    | [.box [.val (.slice none 0 0)]] => some (.val (.int .i64 0), [.box [.row 1 1], .row 230 6 false 1 [.agg [k, w, c, l, match b with | .val (.slice none 0 0) => .slc 1 [] | b => b, match s with | .val (.slice none 0 0) => .slc 1 [] | s => s]]])
    | _ => none
  | 165, [.slc 1 xs] => some (.slc 1 xs, [])
  | 42, [.slc 1 xs] => some (.slc 1 xs, [])
  | 42, [.val (.slice none 0 0)] => some (.slc 1 [], [])
  | _, _ => none
set_option maxRecDepth 20000 in
theorem Leaf_b (l : List Node) (hl : l.length < 1000000000) (kind : Int) (b : List UInt8) (hb : b.length ≤ 1000000000) :
    BCall Tryz.prog 81 [.box 0 0, .val (.int .i64 kind), .slc 1 (bytesA b)] [.box [.row 1 0], .row 230 6 false 0 (nodesA l)] (.val (.int .i64 l.length)) [.box [.row 1 1], .row 230 6 false 1 (nodesA (l ++ [leafF kind b]))] := by
  refine fnN (csAdd std) Tryz.func81 rfl fun _ _ => ?_
  with_reducible refine cv2 (bytesA b) (nodesA l) ?_
  refine ⟨BytesClone_b _ (by simpa [bytesA] using hb), ?_, [some 0, some 1], .val (.int .i64 l.length), _, rfl, rfl, Nat.le_refl _, rfl, ?_, .inl rfl⟩
  · exact (add_b (nodesA l) (by simpa [nodesA] using hl) kind _ 1 true (bytesA b) []).le ⟨.inl rfl, ⟨.inl rfl, .inl rfl, .inl rfl, .inl rfl, .inl rfl, .inr (.inl ⟨rfl, _, rfl⟩), trivial⟩, trivial⟩
  · simp [AllEq, std, nodesA, leafF, Node.av, bytesA, intsA]
set_option maxRecDepth 20000 in
theorem Leaf0_b (kind : Int) (b : List UInt8) (hb : b.length ≤ 1000000000) :
    BCall Tryz.prog 81 [.box 0 0, .val (.int .i64 kind), .slc 1 (bytesA b)] [.box [.val (.slice none 0 0)]] (.val (.int .i64 0)) [.box [.row 1 1], .row 230 6 false 1 (nodesA [leafF kind b])] := by
  refine fnN (csAdd std) Tryz.func81 rfl fun _ _ => ?_
  with_reducible refine cv1 (bytesA b) ?_
  refine ⟨BytesClone_b _ (by simpa [bytesA] using hb), ?_, [some 0, some 1], .val (.int .i64 0), _, rfl, rfl, Nat.le_succ _, rfl, ?_, .inl rfl⟩
  · exact (add0_b kind _ 1 true (bytesA b) []).le ⟨.inl rfl, ⟨.inl rfl, .inl rfl, .inl rfl, .inl rfl, .inl rfl, .inr (.inl ⟨rfl, _, rfl⟩), trivial⟩, trivial⟩
  · simp [AllEq, std, nodesA, leafF, Node.av, bytesA, intsA]
def wsum (l : List Node) (ks : List Int) : Int := (ks.map (widthN l)).sum
def cnt (l : List Node) (ks : List Int) : Int := ks.foldl (fun c k => min (c + countN l k) 2147483647) 1
def branchF (l : List Node) (kind : Int) (ks : List Int) : Node := ⟨kind, wsum l ks, cnt l ks, false, [], ks⟩
theorem wsum_pos {l : List Node} (hw : ∀ n, 0 ≤ widthN l n) (ks : List Int) : 0 ≤ wsum l ks := by
  induction ks with
  | nil => simp [wsum]
  | cons k r ih => have := hw k; simp only [wsum, List.map_cons, List.sum_cons] at ih ⊢; omega
theorem wsum_le {l : List Node} (hw : ∀ n, 0 ≤ widthN l n) (ks : List Int) (n : Nat) : wsum l (ks.take n) ≤ wsum l ks := by
  have h := wsum_pos hw (ks.drop n)
  have e : wsum l ks = wsum l (ks.take n) + wsum l (ks.drop n) := by
    rw [wsum, wsum, wsum, ← List.sum_append, ← List.map_append, List.take_append_drop]
  omega
theorem cnt_range {l : List Node} (hc : ∀ n, 0 ≤ countN l n ∧ countN l n ≤ 2147483647) (ks : List Int) : 0 ≤ cnt l ks ∧ cnt l ks ≤ 2147483647 := by
  have key : ∀ (ks : List Int) (c : Int), 0 ≤ c ∧ c ≤ 2147483647 → 0 ≤ ks.foldl (fun c k => min (c + countN l k) 2147483647) c ∧ ks.foldl (fun c k => min (c + countN l k) 2147483647) c ≤ 2147483647 := by
    intro ks
    induction ks with
    | nil => intro c h; exact h
    | cons k r ih => intro c h; have := hc k; exact ih (min (c + countN l k) 2147483647) (by omega)
  exact key ks 1 (by omega)
set_option maxRecDepth 20000 in
theorem Branch_b (l : List Node) (hl : l.length < 1000000000) (kind : Int) (ks : List Int) (hks : ks.length ≤ 1000000000) (hin : ∀ k ∈ ks, 0 ≤ k ∧ k < l.length) (hw : ∀ n, 0 ≤ widthN l n) (hc : ∀ n, 0 ≤ countN l n ∧ countN l n ≤ 2147483647) (hsum : wsum l ks ≤ 2147483647) :
    BCall Tryz.prog 123 [.box 0 0, .val (.int .i64 kind), .slc 1 (intsA ks)] [.box [.row 1 0], .row 230 6 false 0 (nodesA l)] (.tup [.val (.int .i64 l.length), .val (.int .i64 0)]) [.box [.row 1 1], .row 230 6 false 1 (nodesA (l ++ [branchF l kind ks]))] := by
  refine fnN (csAdd std) Tryz.func123 rfl fun _ _ => ?_
  with_reducible refine cv2 (intsA ks) (nodesA l) ?_
  refine ⟨CloneI_b _ (by simpa [intsA] using hks), ?_⟩
  obtain ⟨n, hn⟩ := exLen ks
  refine loopN (csAdd std) (Int) (fun i => ⟨[(0, .box 0 0), (8, .box 2 0), (9, .val (.bool false)), (18, .slc 1 (intsA ks)), (19, .val (.int .i64 n)), (20, .val (.int .i64 i))], [.box [.row 1 0], .row 230 6 false 0 (nodesA l), .box [.val (.int .i64 kind), .val (.int .i64 (wsum l (ks.take i.toNat))), .val (.int .i64 (cnt l (ks.take i.toNat))), .val (.bool false), .val (.slice none 0 0), .slc 1 (intsA ks)]]⟩) (fun i => 0 ≤ i ∧ i ≤ n) (fun i => (n - i).toNat) 0 ?_ ?_ ?_
  · have := hn.eq
    omega
  · exact ⟨[some 0, some 1, some 2], _, rfl, by simp [AllEq, lk, wsum, cnt, std, intsA, hn.eq]⟩
  · rintro i ⟨hi1, hi2⟩
    have en := hn.eq
    have hks' := ints_len ks
    have hls := nodes_len l
    rcases Int.lt_or_eq_of_le hi2 with hlt | heq
    · have hat := ints_at (l := ks) hi1 (en ▸ hlt)
      have hmem : ks[i.toNat]?.getD 0 ∈ ks := by
        have : i.toNat < ks.length := by omega
        simp [this]
      have ht : ks.take (i + 1).toNat = ks.take i.toNat ++ [ks[i.toNat]?.getD 0] := by
        have : i.toNat < ks.length := by omega
        rw [show (i + 1).toNat = i.toNat + 1 by omega, List.take_add_one]
        simp [this]
      have hW2 : wsum l (ks.take (i + 1).toNat) = wsum l (ks.take i.toNat) + widthN l (ks[i.toNat]?.getD 0) := by rw [ht]; simp [wsum]
      have hC2 : cnt l (ks.take (i + 1).toNat) = min (cnt l (ks.take i.toNat) + countN l (ks[i.toNat]?.getD 0)) 2147483647 := by rw [ht]; simp [cnt, List.foldl_append]
      obtain ⟨hk0, hk1⟩ := hin _ hmem
      obtain ⟨k, hk⟩ : ∃ k, k = ks[i.toNat]?.getD 0 := ⟨_, rfl⟩
      rw [← hk] at hat hW2 hC2 hk0 hk1
      have hnd := nodes_at hk0 hk1
      have hWl : wsum l (ks.take i.toNat) + widthN l k ≤ 2147483647 := by
        rw [← hW2]
        exact Int.le_trans (wsum_le hw _ _) hsum
      have hW0 : 0 ≤ wsum l (ks.take i.toNat) := wsum_pos hw _
      have hC0 := cnt_range hc (ks.take i.toNat)
      have hwk := hw k
      have hck := hc k
      simp only [widthN, countN] at hW2 hC2 hWl hwk hck
      obtain ⟨W, hW⟩ : ∃ W, W = wsum l (ks.take i.toNat) := ⟨_, rfl⟩
      obtain ⟨C, hC⟩ : ∃ C, C = cnt l (ks.take i.toNat) := ⟨_, rfl⟩
      rw [← hW] at hW2 hWl hW0 ⊢
      rw [← hC] at hC2 hC0 ⊢
      clear en
      with_reducible refine cv2 (intsA ks) (nodesA l) ?_
      have en := hn.eq
      replace hk1 : k < (l.length : Int) := hk1
      repeat' first
        | (with_reducible refine And.intro (fun hx => absurd hx (by first | (try simp [std, S1, hat, hks', hls, hnd, hk0, hk1, Node.av, hlt]) <;> omega | omega)) (fun _ => ?_))
        | (with_reducible refine And.intro (fun _ => ?_) (fun hx => absurd hx (by first | (try simp [std, S1, hat, hks', hls, hnd, hk0, hk1, Node.av, hlt]) <;> omega | omega)))
        | (with_reducible refine And.intro (by first | (try simp [std, S1, hat, hks', hls, hnd, hk0, hk1, Node.av, hlt]) <;> omega | omega) ?_)
        | (with_reducible refine And.intro ?_ ?_)
        | (with_reducible intro hb)
      all_goals exact ⟨i + 1, ⟨by omega, by omega⟩, by omega, [some 0, some 1, some 2], _, rfl, by simp [AllEq, lk, std, hat, hnd, Node.av, AV.cells, intOf, hW2, hC2]; omega⟩
    · have ht : ks.take i.toNat = ks := List.take_of_length_le (by omega)
      rw [ht]
      have hW0 := wsum_pos hw ks
      have hC0 := cnt_range hc ks
      have hB : branchF l kind ks = ⟨kind, wsum l ks, cnt l ks, false, [], ks⟩ := rfl
      obtain ⟨W, hW⟩ : ∃ W, W = wsum l ks := ⟨_, rfl⟩
      obtain ⟨C, hC⟩ : ∃ C, C = cnt l ks := ⟨_, rfl⟩
      rw [← hW] at hW0 hB ⊢
      rw [← hC] at hC0 hB ⊢
      clear en
      with_reducible refine cv2 (intsA ks) (nodesA l) ?_
      with_reducible repeat' first | refine aU heq ?_ | refine zA ?_ ?_ | intro hb
      rw [if_pos trivial]
      generalize hBv : branchF l kind ks = B at hB ⊢
      with_reducible refine cv2 (intsA ks) (nodesA l) ?_
      refine ⟨?_, [some 0, some 1], .tup [.val (.int .i64 l.length), .val (.int .i64 0)], _, rfl, rfl, Nat.le_refl _, rfl, ?_, ?_⟩
      · exact (add_b (nodesA l) (by simpa [nodesA] using hl) kind W C false [] (intsA ks)).le ⟨.inl rfl, ⟨.inl rfl, .inl rfl, .inl rfl, .inl rfl, .inr (.inl ⟨rfl, _, rfl⟩), .inl rfl, trivial⟩, trivial⟩
      · simp [AllEq, std, hls, nodesA, hB, Node.av, bytesA, intsA]
      · exact ⟨.inl rfl, .inl rfl, trivial⟩
end Go.Proofs.YtcmjijpofkoogaaGreat
namespace Go.Proofs.YtcmjijpofkoogaaGreat
open Go.RowKit Go.Lib
def Wf (l : List Node) : Prop := ∀ n : Int, 0 ≤ n → n < l.length → ∀ k ∈ (nodeAt l n).kids, 0 ≤ k ∧ k < n
def prF (l : List Node) : Nat → Int → List UInt8
  | 0, _ => []
  | f + 1, n => (nodeAt l n).b ++ (nodeAt l n).kids.flatMap (prF l f)
def pr (l : List Node) (n : Int) : List UInt8 := prF l (n.toNat + 1) n
def coF (l : List Node) : Nat → Int → Nat
  | 0, _ => 1
  | f + 1, n => 1 + ((nodeAt l n).kids.map (coF l f)).sum
def co (l : List Node) (n : Int) : Nat := coF l (n.toNat + 1) n
theorem prF_more {l : List Node} (hw : Wf l) : ∀ (f f' : Nat) (n : Int), 0 ≤ n → n < l.length → n.toNat < f → n.toNat < f' → prF l f n = prF l f' n
  | 0, _, _, _, _, h, _ => by omega
  | _ + 1, 0, _, _, _, _, h => by omega
  | f + 1, f' + 1, n, h0, h1, h2, h3 => by
    simp only [prF]
    congr 1
    refine congrArg List.flatten (List.map_congr_left fun k hk => ?_)
    have := hw n h0 h1 k hk
    exact prF_more hw f f' k this.1 (by omega) (by omega) (by omega)
theorem pr_eq {l : List Node} (hw : Wf l) {n : Int} (h0 : 0 ≤ n) (h1 : n < l.length) : pr l n = (nodeAt l n).b ++ (nodeAt l n).kids.flatMap (pr l) := by
  show prF l (n.toNat + 1) n = _
  simp only [prF]
  congr 1
  refine congrArg List.flatten (List.map_congr_left fun k hk => ?_)
  have := hw n h0 h1 k hk
  exact prF_more hw _ _ k this.1 (by omega) (by omega) (by omega)
theorem coF_more {l : List Node} (hw : Wf l) : ∀ (f f' : Nat) (n : Int), 0 ≤ n → n < l.length → n.toNat < f → n.toNat < f' → coF l f n = coF l f' n
  | 0, _, _, _, _, h, _ => by omega
  | _ + 1, 0, _, _, _, _, h => by omega
  | f + 1, f' + 1, n, h0, h1, h2, h3 => by
    simp only [coF]
    congr 2
    refine List.map_congr_left fun k hk => ?_
    have := hw n h0 h1 k hk
    exact coF_more hw f f' k this.1 (by omega) (by omega) (by omega)
theorem co_eq {l : List Node} (hw : Wf l) {n : Int} (h0 : 0 ≤ n) (h1 : n < l.length) : co l n = 1 + ((nodeAt l n).kids.map (co l)).sum := by
  show coF l (n.toNat + 1) n = _
  simp only [coF]
  congr 2
  refine List.map_congr_left fun k hk => ?_
  have := hw n h0 h1 k hk
  exact coF_more hw _ _ k this.1 (by omega) (by omega) (by omega)
def Wide (l : List Node) : Prop := ∀ n : Int, 0 ≤ n → n < l.length → (nodeAt l n).width = (pr l n).length
theorem co_pos (l : List Node) (n : Int) : 1 ≤ co l n := by
  show 1 ≤ coF l (n.toNat + 1) n
  simp only [coF]; omega
end Go.Proofs.YtcmjijpofkoogaaGreat
namespace Go.Proofs.YtcmjijpofkoogaaGreat
open Go.RowKit Go.Lib
def preF (s t : ByteArray) : Bool := decide (t.size ≤ s.size) && (s.data.toList.take t.size == t.data.toList)
theorem pre_cut {s t : ByteArray} (h : t.size ≤ s.size) : std.eqS (std.cutS s 0 (std.szS t)) t = preF s t := by
  simp only [std, preF, h, decide_true, Bool.true_and, ByteArray.toList_eq]
  rw [show (0 : Int).toNat = 0 from rfl, Int.toNat_natCast, extract_from_zero]
theorem HP0_b (s t : ByteArray) : BCall Tryz.prog 251 [.val (.string s), .val (.string t)] [] (.val (.bool (preF s t))) [] := by
  refine fnN (cs0) Tryz.func251 rfl fun _ _ => ?_
  with_reducible refine cv0 ?_
  refine ⟨fun h => ⟨?_, .pure rfl (.inl ?_)⟩, fun h => .pure rfl (.inl ?_)⟩
  · have h : t.size ≤ s.size := by simpa [std] using h
    simp [std]; omega
  · have h : t.size ≤ s.size := by simpa [std] using h
    show AV.val (.bool (std.eqS (std.cutS s 0 (std.szS t)) t)) = _
    rw [pre_cut h]
  · have h : ¬ t.size ≤ s.size := by simpa [std] using h
    simp [preF, h]
def csPre (pre : ByteArray → ByteArray → Bool) : Nat → List AV → List Ob → Option (AV × List Ob) := fun f args _ => match f, args with
  | 251, [.val (.string s), .val (.string t)] => some (.val (.bool (pre s t)), [])
  | 177, [.val (.string s), .val (.string t)] => some (.val (.bool (pre s t)), [])
  | _, _ => none
theorem HP_b (s t : ByteArray) : BCall Tryz.prog 177 [.val (.string s), .val (.string t)] [] (.val (.bool (preF s t))) [] := by
  refine fnN (csPre preF) Tryz.func177 rfl fun _ _ => ?_
  with_reducible refine cv1 preF ?_
  exact ⟨HP0_b s t, .pure rfl (.inl rfl)⟩
def signsL : List (List UInt8 × Int × Int) := [([254, 255], 1, 2), ([255, 254], 2, 2), ([239, 187, 191], 0, 3), ([0, 60, 0, 63], 1, 0), ([60, 0, 63, 0], 2, 0)]
def kR (pre : List UInt8 → Bool) (k : Nat) : Int × Int := match (signsL.drop k).find? (fun x => pre x.1) with
  | some x => x.2
  | none => (0, 0)
def kindF (b : List UInt8) : Int × Int := kR (fun t => t.isPrefixOf b) 0
theorem bytes_back (l : List UInt8) : (bytesA l).map byteOf = l := by
  induction l with
  | nil => rfl
  | cons x r ih => rw [bytesA, List.map_cons, List.map_cons]; rw [bytesA] at ih; rw [ih]; simp [byteA, byteOf]
theorem isB_bytesA (l : List UInt8) : std.isB (bytesA l) := fun x hx => by
  obtain ⟨n, _, rfl⟩ := List.mem_map.1 hx
  exact ⟨n, rfl⟩
theorem pre_take (b t : List UInt8) (h : t.length ≤ 4) : preF ⟨(b.take 4).toArray⟩ ⟨t.toArray⟩ = t.isPrefixOf b := by
  have e : preF ⟨(b.take 4).toArray⟩ ⟨t.toArray⟩ = (decide (t.length ≤ (b.take 4).length) && ((b.take 4).take t.length == t)) := rfl
  rw [e, Bool.eq_iff_iff, List.isPrefixOf_iff_prefix, List.prefix_iff_eq_take]
  simp only [List.take_take, List.length_take, Bool.and_eq_true, decide_eq_true_eq, beq_iff_eq, Nat.min_eq_left h]
  constructor
  · exact fun h => h.2.symm
  · intro h1
    have : t.length ≤ b.length := by
      have := congrArg List.length h1
      rw [List.length_take] at this
      omega
    exact ⟨by omega, h1.symm⟩
set_option maxRecDepth 20000 in
set_option maxHeartbeats 2000000 in
theorem Kind3_b (b : List UInt8) : BCall Tryz.prog 117 [.slc 1 (bytesA b)] [] (.tup [.val (.int .i64 (kindF b).1), .val (.int .i64 (kindF b).2)]) [] := by
  refine fnN (csPre preF) Tryz.func117 rfl fun _ _ => ?_
  with_reducible refine cv2 preF (bytesA b) ?_
  have hbl := bytes_len b
  have hmin : std.minI (std.len (bytesA b)) 4 = if 4 < (b.length : Int) then 4 else (b.length : Int) := by simp only [std, hbl]
  have hcut : std.cut (bytesA b) 0 (std.minI (std.len (bytesA b)) 4) = bytesA (b.take 4) := by
    rw [hmin]
    show ((bytesA b).drop (0 : Int).toNat).take _ = _
    rw [show (0 : Int).toNat = 0 from rfl, List.drop_zero, bytesA, bytesA, List.map_take]
    split
    · rfl
    · have : b.length ≤ 4 := by omega
      rw [List.take_of_length_le (by simp), List.take_of_length_le (by simpa using this)]
  refine ⟨?_, ?_, ?_⟩
  · simp only [std, hbl]
    split <;> omega
  · show std.isB (std.cut (bytesA b) 0 (std.minI (std.len (bytesA b)) 4))
    rw [hcut]; exact isB_bytesA _
  have hstr : std.strB (std.cut (bytesA b) 0 (std.minI (std.len (bytesA b)) 4)) = ⟨(b.take 4).toArray⟩ := by
    rw [hcut]
    show (⟨((bytesA (b.take 4)).map byteOf).toArray⟩ : ByteArray) = _
    rw [bytes_back]
  obtain ⟨s, hs⟩ : ∃ s : ByteArray, s = ⟨(b.take 4).toArray⟩ := ⟨_, rfl⟩
  have hpre : ∀ t : List UInt8, t.length ≤ 4 → t.isPrefixOf b = preF s ⟨t.toArray⟩ := fun t h => by rw [hs, pre_take b t h]
  have hR : kindF b = kR (fun t => preF s ⟨t.toArray⟩) 0 := by
    simp [kindF, kR, signsL, List.find?, hpre [254, 255] (by decide), hpre [255, 254] (by decide), hpre [239, 187, 191] (by decide), hpre [0, 60, 0, 63] (by decide), hpre [60, 0, 63, 0] (by decide)]
  rw [hR]
  obtain ⟨R, hRE⟩ : ∃ R, R = kR (fun t => preF s ⟨t.toArray⟩) 0 := ⟨_, rfl⟩
  rw [← hRE]
  obtain ⟨R1, R2⟩ := R
  refine loopN (csPre preF) (Int) (fun k => ⟨[(5, .val (.string s)), (20, .agg [.val (.string ⟨#[254, 255]⟩), .val (.int .i64 1), .val (.int .i64 2), .val (.string ⟨#[255, 254]⟩), .val (.int .i64 2), .val (.int .i64 2), .val (.string ⟨#[239, 187, 191]⟩), .val (.int .i64 0), .val (.int .i64 3), .val (.string ⟨#[0, 60, 0, 63]⟩), .val (.int .i64 1), .val (.int .i64 0), .val (.string ⟨#[60, 0, 63, 0]⟩), .val (.int .i64 2), .val (.int .i64 0)]), (21, .val (.int .i64 k))], []⟩) (fun k => 0 ≤ k ∧ k ≤ 5 ∧ (R1, R2) = kR (fun t => preF s ⟨t.toArray⟩) k.toNat) (fun k => (5 - k).toNat) 0 ?_ ?_ ?_
  · exact ⟨by omega, by omega, hRE⟩
  · refine ⟨[], _, rfl, ?_, ?_⟩
    · show AV.val (.string (std.strB (std.cut (bytesA b) 0 (std.minI (std.len (bytesA b)) 4)))) = .val (.string s)
      rw [hstr, ← hs]
    · repeat first | exact trivial | refine ⟨rfl, ?_⟩
  · rintro k ⟨hk0, hk5, hk⟩
    have hcs : k = 0 ∨ k = 1 ∨ k = 2 ∨ k = 3 ∨ k = 4 ∨ k = 5 := by omega
    clear hR hpre hRE hstr hcut hbl hs hmin
    rcases hcs with rfl | rfl | rfl | rfl | rfl | rfl
    · with_reducible refine cv1 preF ?_
      with_reducible repeat' first | refine aU hk ?_ | refine And.intro ?_ ?_ | intro hb
      · exact HP_b _ _
      · with_reducible refine cv1 preF ?_
        simp [kR, signsL, List.find?, hb] at hk
        exact .pure rfl ⟨.inl (by rw [hk.1]), .inl (by rw [hk.2]), trivial⟩
      · refine ⟨1, ⟨by omega, by omega, ?_⟩, by omega, [], _, rfl, ?_⟩
        · rw [hk]
          simp only [kR, signsL, Int.reduceToNat, List.drop_succ_cons, List.drop_zero, List.find?_cons, hb]
        · simp [AllEq, lk, std]
    · with_reducible refine cv1 preF ?_
      with_reducible repeat' first | refine aU hk ?_ | refine And.intro ?_ ?_ | intro hb
      · exact HP_b _ _
      · with_reducible refine cv1 preF ?_
        simp [kR, signsL, List.find?, hb] at hk
        exact .pure rfl ⟨.inl (by rw [hk.1]), .inl (by rw [hk.2]), trivial⟩
      · refine ⟨2, ⟨by omega, by omega, ?_⟩, by omega, [], _, rfl, ?_⟩
        · rw [hk]
          simp only [kR, signsL, Int.reduceToNat, List.drop_succ_cons, List.drop_zero, List.find?_cons, hb]
        · simp [AllEq, lk, std]
    · with_reducible refine cv1 preF ?_
      with_reducible repeat' first | refine aU hk ?_ | refine And.intro ?_ ?_ | intro hb
      · exact HP_b _ _
      · with_reducible refine cv1 preF ?_
        simp [kR, signsL, List.find?, hb] at hk
        exact .pure rfl ⟨.inl (by rw [hk.1]), .inl (by rw [hk.2]), trivial⟩
      · refine ⟨3, ⟨by omega, by omega, ?_⟩, by omega, [], _, rfl, ?_⟩
        · rw [hk]
          simp only [kR, signsL, Int.reduceToNat, List.drop_succ_cons, List.drop_zero, List.find?_cons, hb]
        · simp [AllEq, lk, std]
    · with_reducible refine cv1 preF ?_
      with_reducible repeat' first | refine aU hk ?_ | refine And.intro ?_ ?_ | intro hb
      · exact HP_b _ _
      · with_reducible refine cv1 preF ?_
        simp [kR, signsL, List.find?, hb] at hk
        exact .pure rfl ⟨.inl (by rw [hk.1]), .inl (by rw [hk.2]), trivial⟩
      · refine ⟨4, ⟨by omega, by omega, ?_⟩, by omega, [], _, rfl, ?_⟩
        · rw [hk]
          simp only [kR, signsL, Int.reduceToNat, List.drop_succ_cons, List.drop_zero, List.find?_cons, hb]
        · simp [AllEq, lk, std]
    · with_reducible refine cv1 preF ?_
      with_reducible repeat' first | refine aU hk ?_ | refine And.intro ?_ ?_ | intro hb
      · exact HP_b _ _
      · with_reducible refine cv1 preF ?_
        simp [kR, signsL, List.find?, hb] at hk
        exact .pure rfl ⟨.inl (by rw [hk.1]), .inl (by rw [hk.2]), trivial⟩
      · refine ⟨5, ⟨by omega, by omega, ?_⟩, by omega, [], _, rfl, ?_⟩
        · rw [hk]
          simp only [kR, signsL, Int.reduceToNat, List.drop_succ_cons, List.drop_zero, List.find?_cons, hb]
        · simp [AllEq, lk, std]
    · with_reducible refine cv1 preF ?_
      with_reducible repeat' first | refine aU hk ?_ | refine And.intro ?_ ?_ | intro hb
      rw [if_pos trivial]
      with_reducible refine cv1 preF ?_
      simp [kR, signsL] at hk
      exact .pure rfl ⟨.inl (by rw [hk.1]), .inl (by rw [hk.2]), trivial⟩
end Go.Proofs.YtcmjijpofkoogaaGreat
namespace Go.Proofs.YtcmjijpofkoogaaGreat
open Go.RowKit Go.Lib
def toksA (l : List Tok) : List AV := l.map Tok.av
theorem toks_len (l : List Tok) : (toksA l).length = l.length := by simp [toksA]
theorem toks_app (a b : List Tok) : toksA (a ++ b) = toksA a ++ toksA b := by simp [toksA]
theorem toks_one (t : Tok) : toksA [t] = [.agg [.val (.int .i64 t.kind), .val (.int .i64 t.from_), .val (.int .i64 t.to), .val (.bool t.whole)]] := rfl
def tkOf (t : (Nat × Nat × Bool) × Nat) : Tok := ⟨t.1.1, t.2, t.1.2.1, t.1.2.2⟩
def toksGo (l : List Int) (k : Nat) : List Tok := (tokensGo l k).map tkOf
def toksF (l : List Int) : List Tok := toksGo l 0
theorem toksGo_cons {l : List Int} {k : Nat} (h : k < l.length) : toksGo l k = tokAt l k :: toksGo l (nextTF l k).2.1 := by
  rw [toksGo, tokensGo_cons l k h]; rfl
theorem toksGo_nil {l : List Int} {k : Nat} (h : ¬ k < l.length) : toksGo l k = [] := by rw [toksGo, tokensGo_nil l k h]; rfl
def nextTk (l : List Int) (k : Int) : Tok := if 0 ≤ k ∧ k < l.length then tokAt l k.toNat else ⟨0, 0, 0, false⟩
def nextOk (l : List Int) (k : Int) : Bool := decide (0 ≤ k ∧ k < l.length)
theorem Next_all (l : List Int) (hl : l.length ≤ 1000000000) (k : Int) (h0 : 0 ≤ k) : BCall Tryz.prog 112 [.slc 1 (runesA l), .val (.int .i64 k)] [] (.tup [.agg [.val (.int .i64 (nextTk l k).kind), .val (.int .i64 (nextTk l k).from_), .val (.int .i64 (nextTk l k).to), .val (.bool (nextTk l k).whole)], .val (.bool (nextOk l k))]) [] := by
  by_cases h : k < l.length
  · rw [nextTk, if_pos ⟨h0, h⟩, nextOk, decide_eq_true ⟨h0, h⟩]
    exact Next_b l hl k h0 h
  · have : ¬ (0 ≤ k ∧ k < l.length) := fun x => h x.2
    rw [nextTk, if_neg this, nextOk, decide_eq_false this]
    exact NextEnd_b l k h0 (by omega)
def csN (kd fr to : Int → Int) (wh ok : Int → Bool) : Nat → List AV → List Ob → Option (AV × List Ob) := fun f args _ => match f, args with
  | 112, [.slc 1 _, .val (.int .i64 k)] => some (.tup [.agg [.val (.int .i64 (kd k)), .val (.int .i64 (fr k)), .val (.int .i64 (to k)), .val (.bool (wh k))], .val (.bool (ok k))], [])
  | _, _ => none
set_option maxRecDepth 20000 in
set_option maxHeartbeats 2000000 in
theorem Tokens_b (l : List Int) (hl : l.length ≤ 1000000) : BCall Tryz.prog 120 [.slc 1 (runesA l)] [] (.slc 4 (toksA (toksF l))) [] := by
  have hNx := fun k h0 => Next_all l (by omega) k h0
  obtain ⟨kd, hkd⟩ : ∃ kd : Int → Int, kd = fun k => (nextTk l k).kind := ⟨_, rfl⟩
  obtain ⟨fr, hfr⟩ : ∃ fr : Int → Int, fr = fun k => (nextTk l k).from_ := ⟨_, rfl⟩
  obtain ⟨to, hto⟩ : ∃ to : Int → Int, to = fun k => (nextTk l k).to := ⟨_, rfl⟩
  obtain ⟨wh, hwh⟩ : ∃ wh : Int → Bool, wh = fun k => (nextTk l k).whole := ⟨_, rfl⟩
  obtain ⟨ok, hok⟩ : ∃ ok : Int → Bool, ok = nextOk l := ⟨_, rfl⟩
  have hNx : ∀ k, 0 ≤ k → BCall Tryz.prog 112 [.slc 1 (runesA l), .val (.int .i64 k)] [] (.tup [.agg [.val (.int .i64 (kd k)), .val (.int .i64 (fr k)), .val (.int .i64 (to k)), .val (.bool (wh k))], .val (.bool (ok k))]) [] := fun k h0 => by rw [hkd, hfr, hto, hwh, hok]; exact hNx k h0
  obtain ⟨n, hn⟩ := exLen l
  have hstep : ∀ k : Int, 0 ≤ k → k < n → to k = ((nextTF l k.toNat).2.1 : Nat) ∧ k < to k ∧ to k ≤ n ∧ tokAt l k.toNat = ⟨kd k, fr k, to k, wh k⟩ ∧ ok k = true := fun k h0 h1 => by
    have e := hn.eq
    have h2 : nextTk l k = tokAt l k.toNat := by rw [nextTk, if_pos ⟨h0, by omega⟩]
    have h3 := nextTF_range l k.toNat (by omega)
    have h4 : to k = ((nextTF l k.toNat).2.1 : Nat) := by rw [hto]; simp only [h2]; rfl
    refine ⟨h4, by omega, by omega, ?_, ?_⟩
    · rw [hkd, hfr, hto, hwh]; simp only [h2]
    · rw [hok]; simp [nextOk]; omega
  have hend : ∀ k : Int, 0 ≤ k → ¬ k < n → ok k = false := fun k h0 h1 => by
    have e := hn.eq
    rw [hok]; simp [nextOk]; omega
  clear hkd hfr hto hwh hok
  refine fnN (csN kd fr to wh ok) Tryz.func120 rfl fun _ _ => ?_
  with_reducible refine cv1 (runesA l) ?_
  refine ⟨hNx 0 (by omega), ?_⟩
  refine loopN (csN kd fr to wh ok) (List Tok × Int) (fun x => ⟨[(0, .slc 1 (runesA l)), (3, .row 0 0), (4, .box 1 0), (5, .val (.bool (ok x.2)))], [.row 211 4 false 0 (toksA x.1), .box [.val (.int .i64 (kd x.2)), .val (.int .i64 (fr x.2)), .val (.int .i64 (to x.2)), .val (.bool (wh x.2))]]⟩) (fun x => 0 ≤ x.2 ∧ x.2 ≤ n ∧ x.1 ++ toksGo l x.2.toNat = toksF l ∧ (x.1.length : Int) ≤ x.2) (fun x => (n - x.2).toNat) ([], 0) ?_ ?_ ?_
  · have := hn.eq
    exact ⟨by omega, by simp only; omega, rfl, by simp⟩
  · exact ⟨[none, some 0], _, rfl, by simp [AllEq, lk, toksA]⟩
  · rintro ⟨out, k⟩ ⟨hJ0, hJ1, hJ2, hJ3⟩
    simp only at hJ0 hJ1 hJ2 hJ3
    have hol := toks_len out
    have en := hn.eq
    have hbd : out.length ≤ 1000000 := by omega
    obtain ⟨q, hq⟩ := exLen out
    have hJ4 : q ≤ k := by rw [hq.eq]; exact hJ3
    clear en
    by_cases hk : k < n
    · obtain ⟨s1, s2, s3, s4, s5⟩ := hstep k hJ0 hk
      have s6 := hNx (to k) (by omega)
      have en := hn.eq
      have hG : out ++ [⟨kd k, fr k, to k, wh k⟩] ++ toksGo l (to k).toNat = toksF l := by
        rw [← hJ2, toksGo_cons (k := k.toNat) (by omega), s4, s1, Int.toNat_natCast]; simp
      clear s1 en
      with_reducible refine cv2 (runesA l) (toksA out) ?_
      have eq := hq.eq
      with_reducible repeat' first | refine aU (zA hol <| zA s5 s6) ?_ | refine And.intro ?_ ?_ | intro hb
      exact ⟨(out ++ [⟨kd k, fr k, to k, wh k⟩], to k), ⟨by simp only; omega, s3, hG, by show ((out ++ [_]).length : Int) ≤ to k; simp only [List.length_append, List.length_singleton]; omega⟩, by simp only; omega, [some 0, some 3], _, rfl, by simp [AllEq, lk, std, toks_app, toks_one]⟩
    · have s5 := hend k hJ0 hk
      have en := hn.eq
      have hG : out = toksF l := by rw [← hJ2, toksGo_nil (by omega), List.append_nil]
      clear en
      with_reducible refine cv2 (runesA l) (toksA out) ?_
      with_reducible repeat' first | refine aU s5 ?_ | refine And.intro ?_ ?_ | intro hb
      rw [if_pos trivial]
      with_reducible refine cv2 (runesA l) (toksA out) ?_
      exact .pure rfl (.inl (by rw [hG]))
end Go.Proofs.YtcmjijpofkoogaaGreat
namespace Go.Proofs.YtcmjijpofkoogaaGreat
open Go.RowKit Go.Lib
def tvalF (l : List Int) : Int := if l.getD 0 0 = 34 ∨ l.getD 0 0 = 39 then (match (l.drop 1).findIdx? (· == l.getD 0 0) with | some k => k + 2 | none => 0) else 0
theorem tvalF_hit {l : List Int} {i : Int} (hq : l.getD 0 0 = 34 ∨ l.getD 0 0 = 39) (h1 : 1 ≤ i) (h2 : i < l.length) (h3 : ∀ j : Int, 1 ≤ j → j < i → l.getD j.toNat 0 ≠ l.getD 0 0) (h4 : l.getD i.toNat 0 = l.getD 0 0) : tvalF l = i + 1 := by
  have hk : i.toNat - 1 < (l.drop 1).length := by simp; omega
  have e : (l.drop 1).findIdx? (· == l.getD 0 0) = some (i.toNat - 1) := by
    rw [List.findIdx?_eq_some_iff_getElem]
    refine ⟨hk, ?_, fun j hj => ?_⟩
    · have h5 : 1 + (i.toNat - 1) = i.toNat := by omega
      have h6 : i.toNat < l.length := by omega
      simp only [List.getElem_drop, h5, beq_iff_eq]
      rw [← h4, List.getD_eq_getElem?_getD, List.getElem?_eq_getElem h6]; rfl
    · have h6 : j + 1 < l.length := by omega
      have h7 := h3 ((j + 1 : Nat) : Int) (by omega) (by omega)
      rw [Int.toNat_natCast, List.getD_eq_getElem?_getD, List.getElem?_eq_getElem h6] at h7
      simpa [List.getElem_drop] using h7
  simp only [tvalF, if_pos hq, e]
  omega
theorem tvalF_miss {l : List Int} (h3 : ∀ j : Int, 1 ≤ j → j < l.length → l.getD j.toNat 0 ≠ l.getD 0 0) : tvalF l = 0 := by
  have e : (l.drop 1).findIdx? (· == l.getD 0 0) = none := by
    rw [List.findIdx?_eq_none_iff]
    intro x hx
    obtain ⟨j, hj, rfl⟩ := List.mem_iff_getElem.1 hx
    have h6 : j + 1 < l.length := by simp at hj; omega
    have h7 := h3 ((j + 1 : Nat) : Int) (by omega) (by omega)
    rw [Int.toNat_natCast, List.getD_eq_getElem?_getD, List.getElem?_eq_getElem h6] at h7
    simpa [List.getElem_drop] using h7
  simp only [tvalF, e]
  split <;> rfl
theorem value_b (l : List Int) (hl : l ≠ []) (hmax : l.length ≤ 1000000000) : BCall Tryz.prog 103 [.slc 1 (runesA l)] [] (.val (.int .i64 (tvalF l))) [] := by
  refine bcall_of (cs := cs0) (ord := fun _ => .nil) tyOk (by kernel_rfl) Tryz.func103 rfl (enters_of Tryz.func103 (by kernel_rfl) rfl) (Nat.le_of_ble_eq_true rfl) (by kernel_rfl) (by kernel_rfl) ?_
  intro w0 g0
  generalize hp : std = p
  generalize hx : runesA l = xs
  generalize hT : aexec p tys cs0 _ _ _ _ = T
  cbv at hT
  subst hT
  simp only [Tree.ok]
  subst hp hx
  have hpos : 0 < l.length := List.length_pos_iff.2 hl
  have hlen := runes_len l
  have a0 : (runesA l)[0]?.getD .dead = .val (.int .i32 (l[0]?.getD 0)) := runes_at (i := 0) (Int.le_refl 0) (by omega)
  refine ⟨?_, ?_, fun h1 => ⟨?_, ?_, fun h2 => .pure rfl (.inl ?_), fun h2 => ?_⟩, fun h1 => ?_⟩
  · simp [std, hlen, hpos]
  · simp [std, allP, a0, AV.cells, intOf]
  · simp [std, hlen, hpos]
  · simp [std, allP, a0, AV.cells, intOf]
  · simp [std, a0, AV.cells, intOf] at h1 h2
    simp [tvalF, h1, h2]
  all_goals
    have hq : l.getD 0 0 = 34 ∨ l.getD 0 0 = 39 := by
      first
        | (simp [std, a0, AV.cells, intOf] at h2; exact .inr h2)
        | (simp [std, a0, AV.cells, intOf] at h1; exact .inl h1)
    refine loop_rule (cs := cs0) (ord := fun _ => .nil) tyOk (by kernel_rfl) (by kernel_rfl) (by kernel_rfl) (X := Int) (fun i => ⟨[(0, .slc 1 (runesA l)), (3, .val (.int .i64 i))], []⟩)
      (fun i => 1 ≤ i ∧ i ≤ l.length ∧ ∀ j : Int, 1 ≤ j → j < i → l.getD j.toNat 0 ≠ l.getD 0 0) (fun i => (l.length - i).toNat) 1 ⟨by omega, by omega, fun j h1 h2 => by omega⟩ ⟨[], _, rfl, ?_⟩ ?_
    · exact ⟨rfl, rfl, trivial⟩
    · rintro i ⟨hi1, hi2, hi3⟩
      clear h1
      generalize hp : std = p
      generalize hx : runesA l = xs
      generalize hT : aexec p tys cs0 _ _ _ _ = T
      cbv at hT
      subst hT
      simp only [Tree.ok, RoundOk]
      subst hp hx
      refine ⟨fun h1 => ?_, fun h1 => ?_⟩
      · have h1 : i < l.length := by simpa [std, hlen] using h1
        have ai := runes_at (l := l) (i := i) (by omega) h1
        refine ⟨?_, ?_, ?_, ?_, fun h2 => ⟨?_, ?_⟩, fun h2 => ⟨?_, i + 1, ⟨?_, ?_, fun j h3 h4 => ?_⟩, ?_, [], _, rfl, ?_⟩⟩
        · simp [std, hlen]; omega
        · simp [std, allP, ai, AV.cells, intOf]
        · simp [std, hlen, hpos]
        · simp [std, allP, a0, AV.cells, intOf]
        · show (-9223372036854775808 : Int) ≤ _ ∧ _ ≤ (9223372036854775807 : Int)
          simp [std]; omega
        · generalize hp : std = p
          generalize hx : runesA l = xs
          generalize hT : endK p tys _ _ _ _ = T
          cbv at hT
          subst hT
          subst hp hx
          refine FinOk.pure rfl (.inl ?_)
          have e : l.getD i.toNat 0 = l.getD 0 0 := by simpa [std, ai, a0, AV.cells, intOf] using h2
          rw [tvalF_hit hq hi1 h1 hi3 e]
          rfl
        · show (-9223372036854775808 : Int) ≤ _ ∧ _ ≤ (9223372036854775807 : Int)
          simp [std]; omega
        · show (1 : Int) ≤ i + 1
          omega
        · show i + 1 ≤ (l.length : Int)
          omega
        · by_cases hji : j = i
          · subst hji
            simpa [std, ai, a0, AV.cells, intOf] using h2
          · exact hi3 j h3 (by omega)
        · show ((l.length : Int) - (i + 1)).toNat < ((l.length : Int) - i).toNat
          omega
        · exact ⟨rfl, rfl, trivial⟩
      · have h1 : ¬ i < l.length := by simpa [std, hlen] using h1
        generalize hp : std = p
        generalize hx : runesA l = xs
        generalize hT : aexec p tys cs0 _ _ _ _ = T
        cbv at hT
        subst hT hp hx
        rw [if_pos trivial]
        refine FinOk.pure rfl (.inl ?_)
        rw [tvalF_miss (l := l) (fun j h3 h4 => hi3 j h3 (Int.lt_of_lt_of_le h4 (Int.not_lt.1 h1)))]
end Go.Proofs.YtcmjijpofkoogaaGreat
namespace Go.Proofs.YtcmjijpofkoogaaGreat
open Go.RowKit Go.Lib
def tpieceF (l : List Int) (first : Bool) : Int × Int :=
  if first = true ∧ startsF l 0 [60, 47] = true then (1, 2)
  else if first = true ∧ l.getD 0 0 = 60 then (1, 1)
  else if 0 < (runF isSpace l 0 : Int) then (3, (runF isSpace l 0 : Int))
  else if 0 < (leadF l 0 : Int) then (2, (leadF l 0 : Int))
  else if l.getD 0 0 = 61 then (4, 1)
  else if 0 < tvalF l then (5, tvalF l)
  else if ((l.length : Int) = 2 ∧ startsF l 0 [47, 62] = true) ∨ ((l.length : Int) = 1 ∧ l.getD 0 0 = 62) then (6, (l.length : Int))
  else (7, 1)
def csP (run lead val : Int) (st : ByteArray → Bool) : Nat → List AV → List Ob → Option (AV × List Ob) := fun f args _ => match f, args with
  | 100, _ => some (.val (.int .i64 run), [])
  | 102, _ => some (.val (.int .i64 lead), [])
  | 103, _ => some (.val (.int .i64 val), [])
  | 22, [_, _, .val (.string s)] => some (.val (.bool (st s)), [])
  | _, _ => none
set_option maxRecDepth 20000 in
set_option maxHeartbeats 2000000 in
theorem piece_b (l : List Int) (hl : l ≠ []) (hmax : l.length ≤ 1000000000) (first : Bool) : BCall Tryz.prog 68 [.slc 1 (runesA l), .val (.bool first)] [] (.tup [.val (.int .i64 (tpieceF l first).1), .val (.int .i64 (tpieceF l first).2)]) [] := by
  obtain ⟨run, hrun⟩ : ∃ r : Int, r = (runF isSpace l 0 : Int) := ⟨_, rfl⟩
  obtain ⟨lead, hlead⟩ : ∃ r : Int, r = (leadF l 0 : Int) := ⟨_, rfl⟩
  obtain ⟨val, hval⟩ : ∃ r, r = tvalF l := ⟨_, rfl⟩
  obtain ⟨st, hst⟩ : ∃ st : ByteArray → Bool, st = fun s => startsF l 0 s.data.toList := ⟨_, rfl⟩
  have b1 : BCall Tryz.prog 100 [.slc 1 (runesA l), .val (.int .i64 0), .val (.func (.func 101) #[] #[])] [] (.val (.int .i64 run)) [] := by
    rw [hrun]; exact Run_b l 0 isSpace 101 eg_Space (fun w => Space_ok w)
  have b2 : BCall Tryz.prog 102 [.slc 1 (runesA l), .val (.int .i64 0)] [] (.val (.int .i64 lead)) [] := by
    rw [hlead]; exact Lead_b l 0 (by omega) (by omega)
  have b3 : BCall Tryz.prog 103 [.slc 1 (runesA l)] [] (.val (.int .i64 val)) [] := by
    rw [hval]; exact value_b l hl hmax
  have b4 : ∀ s : ByteArray, s.size ≤ 10 → BCall Tryz.prog 22 [.slc 1 (runesA l), .val (.int .i64 0), .val (.string s)] [] (.val (.bool (st s))) [] := fun s hs => by
    rw [hst]; exact Starts_b l hmax 0 (by omega) (by omega) s (by omega)
  obtain ⟨n, hn⟩ := exLen l
  have e1 : st ⟨#[60, 47]⟩ = startsF l 0 [60, 47] := by rw [hst]
  have e2 : st ⟨#[47, 62]⟩ = startsF l 0 [47, 62] := by rw [hst]
  have hP : tpieceF l first = ((if first = true ∧ st ⟨#[60, 47]⟩ = true then (1, 2)
      else if first = true ∧ l.getD 0 0 = 60 then (1, 1)
      else if 0 < run then (3, run)
      else if 0 < lead then (2, lead)
      else if l.getD 0 0 = 61 then (4, 1)
      else if 0 < val then (5, val)
      else if (n = 2 ∧ st ⟨#[47, 62]⟩ = true) ∨ (n = 1 ∧ l.getD 0 0 = 62) then (6, n)
      else (7, 1)) : Int × Int) := by
    rw [e1, e2, hrun, hlead, hval, hn.eq]; rfl
  rw [hP]
  clear hP e1 e2 hst hval hlead hrun
  have hpos : 0 < l.length := List.length_pos_iff.2 hl
  have a0 := runes_at (l := l) (i := 0) (Int.le_refl 0) (by omega)
  obtain ⟨r0, hr0⟩ : ∃ r0, r0 = l.getD 0 0 := ⟨_, rfl⟩
  have a0 : (runesA l)[0]?.getD .dead = .val (.int .i32 r0) := by rw [hr0, List.getD_eq_getElem?_getD]; exact a0
  have a1 : ∀ h : 0 < (runesA l).length, (runesA l)[0]'h = .val (.int .i32 r0) := fun h => by rw [List.getElem?_eq_getElem h] at a0; exact a0
  rw [← hr0]
  clear hr0
  cases first
  all_goals
    refine fnN (csP run lead val st) Tryz.func68 rfl fun _ _ => ?_
    with_reducible refine cv1 (runesA l) ?_
    have en := hn.eq
    have hlen := runes_len l
    have hpos' : 0 < (runesA l).length := by omega
    have hlen' : (((runesA l).length : Nat) : Int) = n := by omega
    have b5 := b4 ⟨#[60, 47]⟩ (by decide)
    have b6 := b4 ⟨#[47, 62]⟩ (by decide)
    with_reducible repeat' first | refine aU (zA a0 <| zA a1 <| zA hlen' <| zA hpos' <| zA b1 <| zA b2 <| zA b3 <| zA b5 b6) ?_ | refine And.intro ?_ ?_ | (intro hb; try simp [std, S1, a0, a1, hlen', hpos', b1, b2, b3, b5, b6] at hb)
    all_goals
      first
        | refine .pure rfl ⟨.inl ?_, .inl ?_, trivial⟩
          all_goals
            try simp only [std, hlen']
            clear en hlen hlen' hpos' hpos hn b1 b2 b3 b4 b5 b6
          all_goals first
            | (simp [*]; done)
            | ((repeat' split) <;> first | rfl | omega | (simp_all; done) | (simp_all; omega))
        | skip
  all_goals trace_state
end Go.Proofs.YtcmjijpofkoogaaGreat
