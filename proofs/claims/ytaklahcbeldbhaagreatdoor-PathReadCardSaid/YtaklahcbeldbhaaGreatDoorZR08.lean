/- Lemmas, conditions told -/
import Derived.Test.YtaklahcbeldbhaaGreatDoorZR07
import Derived.Laws.StructEq
set_option linter.unusedSimpArgs false
set_option linter.unusedVariables false
namespace Go.Proofs.YtaklahcbeldbhaaGreatDoor
open Go.RowKit Go.Lib
theorem putC_cells {x : AV} {off sz : Nat} {new : List AV} (hx : x.cells.length = sz) (hn : new.length ≠ 0) (h1 : ∀ u ∈ new, u.cells = [u]) (hl : off + new.length ≤ sz) : (putC x off new).cells = setCells x.cells off new := by
  cases x with
  | agg cs => rfl
  | _ =>
    obtain rfl : 1 = sz := hx
    obtain rfl : off = 0 := by omega
    obtain ⟨u, rfl⟩ : ∃ u, new = [u] := List.length_eq_one_iff.1 (by omega)
    exact h1 u List.mem_cons_self
theorem setCells_app {a r new : List AV} {off : Nat} (h : off + new.length ≤ a.length) : setCells (a ++ r) off new = setCells a off new ++ r := by
  unfold setCells
  rw [List.take_append_of_le_length (by omega), List.drop_append_of_le_length h]
  simp
theorem setCells_shift {a r new : List AV} {off : Nat} : setCells (a ++ r) (a.length + off) new = a ++ setCells r off new := by
  unfold setCells
  rw [List.take_length_add_append, Nat.add_assoc, List.drop_length_add_append]
  simp
theorem flat_cons (x : AV) (r : List AV) : flatA (x :: r) = x.cells ++ flatA r := List.flatMap_cons
theorem take_store (cur vs : List Value) (o n : Nat) (h : o + vs.length ≤ n) (hn : n ≤ cur.length) : (cur.take o ++ (vs ++ cur.drop (o + vs.length))).take n = (cur.take n).take o ++ vs ++ (cur.take n).drop (o + vs.length) := by
  have hx : (cur.take o).length = o := by rw [List.length_take]; omega
  rw [List.take_take, Nat.min_eq_left (by omega), List.drop_take, List.take_append, hx, List.take_append, List.take_of_length_le (l := cur.take o) (by omega), List.take_of_length_le (l := vs) (by omega), List.append_assoc, Nat.sub_sub]
theorem flat_setR {sz off : Nat} {new : List AV} (hn : new.length ≠ 0) (h1 : ∀ u ∈ new, u.cells = [u]) (hl : off + new.length ≤ sz) : ∀ (xs : List AV) (i : Nat), (∀ x ∈ xs, x.cells.length = sz) → i < xs.length →
    flatA (setxs xs i off new) = setCells (flatA xs) (i * sz + off) new
  | [], _, _, h => by cases h
  | x :: r, 0, hw, _ => by
    have hx := hw x List.mem_cons_self
    show flatA (putC x off new :: r) = _
    rw [flat_cons, flat_cons, putC_cells hx hn h1 hl, Nat.zero_mul, Nat.zero_add, setCells_app (by omega)]
  | x :: r, i + 1, hw, hi => by
    have hx := hw x List.mem_cons_self
    have ih := flat_setR hn h1 hl r i (fun y hy => hw y (List.mem_cons_of_mem _ hy)) (by simpa using hi)
    show flatA (x :: setxs r i off new) = _
    rw [flat_cons, flat_cons, show (i + 1) * sz + off = x.cells.length + (i * sz + off) by rw [hx, Nat.succ_mul]; omega, setCells_shift]
    exact congrArg _ ih
theorem setxs_len (xs : List AV) (i off : Nat) (new : List AV) : (setxs xs i off new).length = xs.length := List.length_set
theorem setxs_w {sz off i : Nat} {new xs : List AV} (hn : new.length ≠ 0) (h1 : ∀ u ∈ new, u.cells = [u]) (hl : off + new.length ≤ sz) (hw : ∀ x ∈ xs, x.cells.length = sz) (hi : i < xs.length) : ∀ x ∈ setxs xs i off new, x.cells.length = sz := by
  intro x hx
  rcases List.mem_or_eq_of_mem_set hx with h | rfl
  · exact hw x h
  · have h2 : (xs.getD i .dead).cells.length = sz := hw _ (by rw [List.getD_eq_getElem?_getD, List.getElem?_eq_getElem hi]; exact List.getElem_mem hi)
    rw [putC_cells h2 hn h1 hl]
    unfold setCells
    rw [List.length_append, List.length_append, List.length_take, List.length_drop]
    omega
section
variable {w : World} {g : Gh} {ob : List Ob}
theorem rowNot (M : Mem w g ob) {id et sz e b : Nat} {xs : List AV} (h : ob[id]? = some (.row et sz false e xs)) (hG : g.G b = some id) (hs : g.sub b = false) {b' o : Nat} (hA : g.A b' o) : b' ≠ b := by
  rintro rfl
  obtain ⟨_, _, _, _, h1, _⟩ := (M.imm _ _ hA).2 id hG hs
  rw [h] at h1; cases h1
theorem storeRow (M : Mem w g ob) {id et sz e b c i off : Nat} {xs us : List AV} {vs : List Value} (h : ob[id]? = some (.row et sz false e xs)) (he : et ≠ subT) (hv : RowV w g id et sz (.slice (some ⟨b, 0, none⟩) xs.length c) xs)
    (hi : i < xs.length) (hal : Alike w g.A vs us) (hn : us.length ≠ 0) (h1 : ∀ u ∈ us, u.cells = [u]) (hl : off + us.length ≤ sz) :
    g.G b = some id ∧ (∃ cur, w.heap[b]? = some (.cells cur et (0, 0)) ∧ i * sz + off + us.length ≤ cur.size) ∧ Ext w g ob (w.setCells b (i * sz + off) vs) g (ob.set id (.row et sz false e (setxs xs i off us))) ∧ Mem (w.setCells b (i * sz + off) vs) g (ob.set id (.row et sz false e (setxs xs i off us))) := by
  have hid := lt_of_some h
  have hw := (M.roww _ _ _ _ _ _ h).2
  obtain ⟨ys, ⟨hyl, ho⟩, hG, hal0, _, hsub⟩ := hv
  have hGb := hG b rfl
  have hsb := hsub.1 b rfl
  obtain ⟨hv, _⟩ | ⟨b', cap, cur, hv, _, hh, hcap, _, hcs, hys⟩ := ho
  · cases hv
  obtain ⟨rfl, rfl⟩ : b = b' ∧ c = cap := by simpa using hv
  have hmul : (i + 1) * sz ≤ xs.length * sz := Nat.mul_le_mul_right _ hi
  rw [Nat.succ_mul] at hmul
  have hmul2 : xs.length * sz ≤ c * sz := Nat.mul_le_mul_right _ hcap
  have hin : i * sz + off + us.length ≤ cur.size := by omega
  have hcell : ∀ b' o, g.A b' o → (w.setCells b (i * sz + off) vs).cell? ⟨b', o, none⟩ = w.cell? ⟨b', o, none⟩ := fun b' o hA => World.cell?_of_block (w := w) (cell_setCells (k := 0) (rowNot M h hGb hsb hA))
  have hA : ∀ b' o, g.A b' o → g.A b' o ∧ (w.setCells b (i * sz + off) vs).cell? ⟨b', o, none⟩ = w.cell? ⟨b', o, none⟩ := fun b' o h => ⟨h, hcell b' o h⟩
  have ne : ∀ {b' k : Nat}, g.G b' = some k → k ≠ id → b' ≠ b := by
    rintro b' k hG' hne rfl
    rw [hGb] at hG'
    exact hne (by simpa using hG'.symm)
  have st : Stored w (w.setCells b (i * sz + off) vs) g.A et sz b (setxs xs i off us) := by
    refine ⟨cur, _, hh, heap_setCells_self (W := w) vs (i * sz + off) w cur hh (by rw [hal.1]; exact hin), ?_, ?_⟩
    · simp [hal.1]; omega
    · rw [setxs_len, flat_setR hn h1 hl xs i hw hi]
      have e1 : ((cur.toList.take (i * sz + off) ++ (vs ++ cur.toList.drop (i * sz + off + vs.length))).toArray.toList.take (xs.length * sz)) = ys.take (i * sz + off) ++ vs ++ ys.drop (i * sz + off + us.length) := by
        rw [← hys, ← hal.1]
        have hcl : cur.toList.length = c * sz := (Array.length_toList).trans hcs
        exact take_store _ _ _ _ (by rw [hal.1]; omega) (by rw [hcl]; omega)
      rw [e1]
      unfold setCells
      exact (((hal0.keep hA).take _).append (hal.keep hA)).append ((hal0.keep hA).drop _)
  have E : Ext w g ob (w.setCells b (i * sz + off) vs) g (ob.set id (.row et sz false e (setxs xs i off us))) := by
    refine ⟨hA, fun _ _ => rfl, fun k hk => ?_, fun k hk => ?_, fun k et' sz' fz2 e2 xs2 hk => ?_, fun _ _ _ _ => ⟨rfl, fun _ _ h => h⟩⟩
    · have : k ≠ id := by rintro rfl; rw [h] at hk; exact hk
      rw [List.getElem?_set_ne (Ne.symm this)]; exact hk
    · have : k ≠ id := by rintro rfl; rw [h] at hk; exact hk
      rw [List.getElem?_set_ne (Ne.symm this)]; exact hk
    · by_cases e' : k = id
      · subst e'
        rw [h] at hk
        cases hk
        refine ⟨false, e, _, List.getElem?_set_self hid, Nat.le_refl _, fun _ => .inr ⟨he, setxs_len _ _ _ _, setxs_w hn h1 hl hw hi, fun b' hG' => ⟨hG', fun hs' => ?_⟩⟩⟩
        obtain rfl : b = b' := M.uniq _ _ _ hGb hG' hsb hs'
        exact st
      · exact ⟨fz2, e2, xs2, by rw [List.getElem?_set_ne (Ne.symm e')]; exact hk, Nat.le_refl _, fun _ => .inl ⟨rfl, fun b' hG' => ⟨hG', cell_setCells (k := 0) (ne hG' e')⟩⟩⟩
  refine ⟨hGb, ⟨cur, hh, hin⟩, E, fun k cs hk => ?_, fun k cs hk j u hj => ?_, fun k y hk => ?_, fun b' k hG' => ⟨by rw [size_setCells]; exact (M.own b' k hG').1, by rw [List.length_set]; exact (M.own b' k hG').2⟩, fun b' o hA' => ⟨by rw [size_setCells]; exact (M.imm b' o hA').1, fun k hGk hs => ?_⟩, fun k et' sz' fz2 e2 xs2 hk => ?_, fun b' hs => ?_, M.uniq⟩
  · have e' : k ≠ id := by rintro rfl; rw [List.getElem?_set_self hid] at hk; cases hk
    rw [List.getElem?_set_ne (Ne.symm e')] at hk
    obtain ⟨h3, cur', T, h4, h5⟩ := M.box k cs hk
    exact ⟨h3, cur', T, by rw [cell_setCells (k := 0) (ne h3 e')]; exact h4, h5.ext E⟩
  · have e' : k ≠ id := by rintro rfl; rw [List.getElem?_set_self hid] at hk; cases hk
    rw [List.getElem?_set_ne (Ne.symm e')] at hk
    obtain ⟨h3, y, h4, h5⟩ := M.fbox k cs hk j u hj
    exact ⟨h3, y, by rw [hcell _ _ h3]; exact h4, h5.keep hA⟩
  · have e' : k ≠ id := by rintro rfl; rw [List.getElem?_set_self hid] at hk; cases hk
    rw [List.getElem?_set_ne (Ne.symm e')] at hk
    obtain ⟨h3, h4⟩ := M.iter k y hk
    exact ⟨h3, h4.at E.A (cell_setCells (k := 0) (ne h3 e'))⟩
  · obtain ⟨et', sz', e2, xs2, h3, h4⟩ := (M.imm b' o hA').2 k hGk hs
    have e' : k ≠ id := by rintro rfl; rw [h] at h3; cases h3
    exact ⟨et', sz', e2, xs2, by rw [List.getElem?_set_ne (Ne.symm e')]; exact h3, h4⟩
  · by_cases e' : k = id
    · subst e'
      rw [List.getElem?_set_self hid] at hk
      cases hk
      exact ⟨(M.roww _ _ _ _ _ _ h).1, setxs_w hn h1 hl hw hi⟩
    · rw [List.getElem?_set_ne (Ne.symm e')] at hk
      exact M.roww k _ _ _ _ _ hk
  · obtain ⟨k, et', sz', fz2, e2, xs2, h3, h4⟩ := M.nsub b' hs
    by_cases e' : k = id
    · subst e'
      exact ⟨k, _, _, _, _, _, h3, List.getElem?_set_self hid⟩
    · exact ⟨k, et', sz', fz2, e2, xs2, h3, by rw [List.getElem?_set_ne (Ne.symm e')]; exact h4⟩
end
section
variable {P : Program} {ty : Tys} {w0 : World} {g0 : Gh} {o0 : List Ob} {N : Nat} {Q : Ex → St → Prop}
theorem pur_cells {x : AV} (h : x.pur = true) : ∀ u ∈ x.cells, u.cells = [u] := by
  cases x with
  | agg cs =>
    intro u hu
    have := List.all_eq_true.1 h u hu
    cases u <;> first | rfl | cases this
  | _ => intro u hu; rw [List.mem_singleton.1 hu]; rfl
theorem op_storeR (hT : TyOk P ty) {K : St → Tree} {o : Oper} {s : St} {a : Act} {w : World} {R : Exit → Act → World → Prop} (hs : Sim w0 g0 o0 N s a w) (hd : ∀ t, o.dst = some t → t < N)
    {T : Nat} {x y : Operand} (ho : o.op = .store T x y) {id ep off et sz e : Nat} {i : Int} {xs : List AV} (hx : ev s x = .rptr id ep i off) (hb : s.ob[id]? = some (.row et sz false e xs)) (hee : e = ep) (het : et ≠ subT) (hp : (ev s y).pur = true) (hk : (tyLook T ty).ok = true)
    (hsz : (ev s y).cells.length = (tyLook T ty).size) (hn : (ev s y).cells.length ≠ 0) (hle : off + (ev s y).cells.length ≤ sz)
    (hok : (K (St.put ⟨s.tm, s.ob.set id (.row et sz false e (std.setx xs i off (ev s y).cells))⟩ o.dst .dead)).ok P w0 g0 o0 N Q) : o.wp P a w (Good ty P w0 g0 o0 N Q K o.op w) R := by
  obtain ⟨g, M, hS, h0⟩ := hs.rel
  have hl : (ev s y).live = true := by cases hh : ev s y <;> rw [hh] at hp <;> first | rfl | cases hp
  have hal := pur_alike (vs := []) ((ev_rel hS y).to1 hl) hp
  have hxr := ev_rel hS x
  rw [hx] at hxr
  obtain ⟨_, et', sz', fz', e', xs', h1', _, h3⟩ := hxr
  rw [hb] at h1'; cases h1'
  obtain ⟨b, c, hv, h4, h5, h6⟩ := h3 hee
  have hi : i.toNat < xs.length := by omega
  obtain ⟨hG, ⟨cur, hh, hin⟩, E, M'⟩ := storeRow M hb het h6 hi hal hn (pur_cells hp) hle
  have hlen : (a.eval y).cells.size = (ev s y).cells.length := by simpa using hal.1
  have hst := run_storeCells_cells (P := P) b (i.toNat * sz + off) (a.eval y).cells.toList 0 w (fun j hj => by
      have : i.toNat * sz + off + j < cur.size := by simp at hj; omega
      simp [World.cell?, hh, this]) (fun j hj => by simp [World.frozen?, hh]) hal.one
  rw [Nat.add_zero] at hst
  have hsT := (ty_ok hT hk).size w
  have hr : (execOp a.eval o).run P w = .ok .skip (w.setCells b (i.toNat * sz + off) (a.eval y).cells.toList) := by
    have hne : ¬ ((a.eval y).cells.size ≠ (tyLook T ty).size) := by omega
    simp only [execOp, ho, Instr.storeAt, hv, Instr.sureAddr, storeVar, Sem.run_bind, Sem.run_pure, Result.andThen_ok, hsT, hne, if_false, hst]
  unfold Oper.wp
  rw [hr]
  show Good ty P w0 g0 o0 N Q K o.op w (a.put o.dst undef) _
  refine ⟨fun h => by simp [ho, quietW] at h, _, sim_put hs hS h0 M' ⟨(setCells_rest _ _ _ _).1, (setCells_rest _ _ _ _).2.1, (setCells_rest _ _ _ _).2.2, by rw [size_setCells]; exact Nat.le_refl _, fun b' _ hG' => ?_, fun b' k hG' => .inl ⟨k, hG'⟩, fun b' o h => .inl h, E, by simp⟩ hd (v := undef) (x := .dead) trivial, hok⟩
  exact cell_setCells (k := 0) (fun e => by rw [e, hG] at hG'; cases hG')
end
end Go.Proofs.YtaklahcbeldbhaaGreatDoor
namespace Go.Proofs.YtaklahcbeldbhaaGreatDoor
open Go.RowKit Go.Lib
section
variable {P : Program} {ty : Tys} {w0 : World} {g0 : Gh} {o0 : List Ob} {N : Nat} {Q : Ex → St → Prop}
theorem op_makeMap {K : St → Tree} {o : Oper} {s : St} {a : Act} {w : World} {R : Exit → Act → World → Prop} (hs : Sim w0 g0 o0 N s a w) (hd : ∀ t, o.dst = some t → t < N)
    {T : Nat} (ho : o.op = .makeMap T none) (hok : (K (St.put ⟨s.tm, s.ob ++ [.iter (.map [])]⟩ o.dst (.iter s.ob.length))).ok P w0 g0 o0 N Q) : o.wp P a w (Good ty P w0 g0 o0 N Q K o.op w) R := by
  obtain ⟨g, M, hS, h0⟩ := hs.rel
  have hr : (execOp a.eval o).run P w = .ok (.value (.map (some w.heap.size))) (w.alloc (.map #[] 0)) := by
    simp only [execOp, ho]
    refine run_valW ?_
    simp only [Option.map_none, Instr.makeMap, Sem.run_bind, Sem.run_pure, Result.andThen_ok, run_newObj]
    rfl
  have M' := M.new (.map #[] 0) (.iter (.map [])) (fun cs h => by cases h) (fun cs h => by cases h) (fun y h => by cases h; exact ⟨#[], 0, rfl, rfl, fun j e q h => by simp at h⟩) (fun et sz fz e xs h => by cases h)
  refine wp_ok hr ⟨fun _ => (Below.refl _ w).alloc (Nat.le_refl _) _, _, sim_put hs hS h0 M' (Step.new M _ _) hd ?_, hok⟩
  refine ⟨true, by simp [Gh.new, itVal], ?_⟩
  rw [get_new]; rfl
theorem allV0_rel {w : World} {g : Gh} {ob : List Ob} : ∀ {cs : List AV} {vs : List Value}, allV0 cs = some vs → ARelC w g ob vs cs
  | [], vs, h => by
    obtain rfl : [] = vs := by simpa [allV0] using h
    exact ⟨rfl, fun j v u h => by simp at h⟩
  | x :: r, vs, h => by
    cases x with
    | val v =>
      simp only [allV0] at h
      split at h
      · rename_i hv
        obtain ⟨us, hu, rfl⟩ := Option.map_eq_some_iff.1 h
        have ih := allV0_rel (w := w) (g := g) (ob := ob) hu
        refine ⟨by simp [ih.1], fun j y u hy hu' => ?_⟩
        cases j with
        | zero =>
          obtain rfl : v = y := by simpa using hy
          obtain rfl : AV.val v = u := by simpa using hu'
          exact ⟨PRel.val _ hv, hv⟩
        | succ j => exact ih.2 j y u (by simpa using hy) (by simpa using hu')
      · cases h
    | _ => simp [allV0] at h
def keyC : Value → List Value
  | .agg cs => cs.toList
  | v => [v]
theorem keyV_rel {w : World} {g : Gh} {ob : List Ob} {x : AV} {v : Value} (h : keyV x = some v) : ARelC w g ob (keyC v) x.cells ∧ (aggB x = true ↔ ∃ vs : Array Value, v = .agg vs) := by
  cases x with
  | agg cs =>
    obtain ⟨vs, h1, rfl⟩ := Option.map_eq_some_iff.1 h
    exact ⟨allV0_rel h1, by simp [aggB]⟩
  | val u =>
    simp only [keyV] at h
    split at h
    · rename_i hu
      obtain rfl : u = v := by simpa using h
      have hn : ∀ vs : Array Value, u ≠ .agg vs := fun vs e => by rw [e] at hu; cases hu
      have hc : keyC u = [u] := by
        cases u <;> first | rfl | exact absurd rfl (hn _)
      refine ⟨⟨by rw [hc]; rfl, fun j y z hy hz => ?_⟩, by simp only [aggB]; exact ⟨fun h => (by cases h), fun ⟨vs, e⟩ => absurd e (hn vs)⟩⟩
      rw [hc] at hy
      cases j with
      | zero =>
        obtain rfl : u = y := by simpa using hy
        obtain rfl : AV.val u = z := by simpa [AV.cells] using hz
        exact ⟨PRel.val _ hu, hu⟩
      | succ j => simp at hy
    · cases h
  | _ => cases h
theorem shA_srt {w : World} {g : Gh} {ob : List Ob} : ∀ {cs : List AV} {us : List Value} {sh : List Srt}, shA cs = some sh → ARelC w g ob us cs → us.map srtV = sh.map some
  | [], us, sh, h, hu => by
    obtain rfl : [] = sh := by simpa [shA] using h
    obtain rfl : us = [] := List.eq_nil_of_length_eq_zero hu.1
    rfl
  | x :: r, us, sh, h, hu => by
    simp only [shA] at h
    split at h
    · rename_i s ss h1 h2
      obtain rfl : s :: ss = sh := by simpa using h
      cases us with
      | nil => exact absurd hu.1 (by simp)
      | cons u us =>
        have ih := shA_srt (w := w) (g := g) (ob := ob) h2 (us := us) ⟨by simpa using hu.1, fun j y z hy hz => hu.2 (j + 1) y z (by simpa using hy) (by simpa using hz)⟩
        have h3 := (hu.2 0 u x rfl rfl).1
        have h4 : srtV u = some s := by
          cases x with
          | val v =>
            obtain rfl : u = v := by have h3 : PRel w g.A u (.val v) := h3; cases h3; rfl
            cases u <;> simp [srtA] at h1 <;> simp [srtV, h1]
          | _ => simp [srtA] at h1
        rw [List.map_cons, List.map_cons, h4, ih]
    · cases h
theorem vals0_of {w : World} {g : Gh} {ob : List Ob} : ∀ {cs : List AV} {us : List Value} {sh : List Srt}, shA cs = some sh → ARelC w g ob us cs → allV0 cs = some us
  | [], us, sh, h, hu => by
    obtain rfl : us = [] := List.eq_nil_of_length_eq_zero hu.1
    rfl
  | x :: r, us, sh, h, hu => by
    simp only [shA] at h
    split at h
    · rename_i s ss h1 h2
      cases us with
      | nil => exact absurd hu.1 (by simp)
      | cons u us =>
        have ih := vals0_of (w := w) (g := g) (ob := ob) h2 (us := us) ⟨by simpa using hu.1, fun j y z hy hz => hu.2 (j + 1) y z (by simpa using hy) (by simpa using hz)⟩
        have h3 := (hu.2 0 u x rfl rfl).1
        cases x with
        | val v =>
          obtain rfl : u = v := by have h3 : PRel w g.A u (.val v) := h3; cases h3; rfl
          simp only [allV0]
          rw [if_pos (hu.2 0 u _ rfl rfl).2, ih]; rfl
        | _ => simp [srtA] at h1
    · cases h
theorem someMap_inj {a b : List Srt} (h : a.map some = b.map some) : a = b := by
  have := congrArg (List.filterMap id) h
  simpa using this
def Fnd (P : Program) (w0 : World) (g0 : Gh) (o0 : List Ob) (N : Nat) (Q : Ex → St → Prop) (w : World) (A : Nat → Nat → Prop) (f : Nat → AV → Tree) (n : Tree) (r : Option (Nat × Value)) : Prop :=
  (∃ m v u, r = some (m, v) ∧ PRel1 w A v u ∧ (f m u).ok P w0 g0 o0 N Q) ∨ (r = none ∧ n.ok P w0 g0 o0 N Q)
theorem lookA {w : World} {g : Gh} {K : Nat} {cs : List AV} {us : List Value} (hu : allV0 cs = some us) {sh : List Srt} (hsh : shA cs = some sh) (hK : KeyOk P K sh) {f : Nat → AV → Tree} {n : Tree} :
    ∀ (es : List (AV × AV)) (l : List MapEntry) (j : Nat), l.length = es.length → (∀ (i : Nat) e q, l[i]? = some e → es[i]? = some q → EntR w g.A e q) → (lookT std (.agg cs) f n j es).ok P w0 g0 o0 N Q →
      ∃ r, (∀ W, (Instr.findAsking K (.agg us.toArray) l j).run P W = .ok r W) ∧ Fnd P w0 g0 o0 N Q w g.A f n r
  | [], l, j, hl, _, hok => by
    obtain rfl : l = [] := List.eq_nil_of_length_eq_zero hl
    exact ⟨none, fun W => rfl, .inr ⟨rfl, hok⟩⟩
  | (k, v) :: r, l, j, hl, hE, hok => by
    cases l with
    | nil => cases hl
    | cons e l =>
      simp only [lookT] at hok
      split at hok
      · rename_i hg
        obtain ⟨hk, hv⟩ := hE 0 e (k, v) rfl rfl
        obtain ⟨hkr, hka⟩ := keyV_rel (w := w) (g := g) (ob := []) hk
        obtain ⟨vs, hvs⟩ := hka.1 hg
        split at hok
        · rename_i sh' b hb
          rw [hvs] at hkr
          have h0 := allV0_rel (w := w) (g := g) (ob := []) hu
          obtain ⟨e1, e2, e3⟩ := eqCs_vals _ _ us vs.toList sh' b hb h0 hkr
          have e4 := shA_srt hsh h0
          obtain rfl : sh' = sh := someMap_inj (e1.symm.trans e4)
          have hq : ∀ W, (Op.equal K (.agg us.toArray) e.key).run P W = .ok b W := fun W => by
            rw [hvs, e3, ← hK.2 us vs.toList W e1 e2]
          cases b with
          | true =>
            refine ⟨some (j, e.val), fun W => ?_, .inl ⟨j, e.val, v, rfl, hv, hok.1 rfl⟩⟩
            rw [Instr.findAsking, Sem.run_bind, hq W]; rfl
          | false =>
            obtain ⟨q, h1, h2⟩ := lookA hu hsh hK r l (j + 1) (by simpa using hl) (fun i e q h3 h4 => hE (i + 1) e q (by simpa using h3) (by simpa using h4)) (hok.2 rfl)
            refine ⟨q, fun W => ?_, h2⟩
            rw [Instr.findAsking, Sem.run_bind, hq W]
            exact h1 W
        · exact hok.elim
      · exact hok.elim
theorem eqC_now {d : TypeDesc} {v0 u : Value} {s : Srt} {b : Bool} (hd : (d = .string ∧ ∃ s, v0 = .string s) ∨ (∃ k k' m, d = .int k ∧ v0 = .int k' m)) (h : eqC std (.val v0) (.val u) = some (s, b)) : Instr.sameNow d v0 u = some b := by
  rcases hd with ⟨rfl, a, rfl⟩ | ⟨k, k', m, rfl, rfl⟩
  · cases u <;> simp [eqC] at h
    rename_i c
    rw [← h.2]
    show some (a == c) = some (a.toList == c.toList)
    rw [beq_toListBytes]
  · cases u <;> simp [eqC] at h
    rename_i k2 m2
    obtain ⟨rfl, _, h2⟩ := h
    rw [← h2]
    show (if k' = k' then some (m == m2) else none) = some (m == m2)
    rw [if_pos rfl]
theorem lookB {w : World} {g : Gh} {d : TypeDesc} {v0 : Value} (hv0 : v0.oneCell' = true) (hd : (d = .string ∧ ∃ s, v0 = .string s) ∨ (∃ k k' m, d = .int k ∧ v0 = .int k' m)) {f : Nat → AV → Tree} {n : Tree} :
    ∀ (es : List (AV × AV)) (l : List MapEntry) (j : Nat), l.length = es.length → (∀ (i : Nat) e q, l[i]? = some e → es[i]? = some q → EntR w g.A e q) → (lookT std (.val v0) f n j es).ok P w0 g0 o0 N Q →
      ∃ r, Instr.findNow d v0 l j = some r ∧ Fnd P w0 g0 o0 N Q w g.A f n r
  | [], l, j, hl, _, hok => by
    obtain rfl : l = [] := List.eq_nil_of_length_eq_zero hl
    exact ⟨none, rfl, .inr ⟨rfl, hok⟩⟩
  | (k, v) :: r, l, j, hl, hE, hok => by
    cases l with
    | nil => cases hl
    | cons e l =>
      simp only [lookT] at hok
      split at hok
      · rename_i hg
        obtain ⟨hk, hv⟩ := hE 0 e (k, v) rfl rfl
        cases k with
        | val u =>
          simp only [keyV] at hk
          split at hk
          · obtain rfl : u = e.key := by simpa using hk
            split at hok
            · rename_i sh' b hb
              have hq : Instr.sameNow d v0 e.key = some b := by
                simp only [AV.cells, eqCs] at hb
                split at hb
                · rename_i s a ss a2 h1 h2
                  obtain ⟨rfl, rfl⟩ : ss = [] ∧ a2 = true := by simpa using h2.symm
                  have hb : a = b := by have := (Prod.mk.inj (Option.some.inj hb)).2; simpa [std] using this
                  rw [← hb]
                  exact eqC_now hd h1
                · cases hb
              cases b with
              | true => exact ⟨some (j, e.val), by rw [Instr.findNow, hq], .inl ⟨j, e.val, v, rfl, hv, hok.1 rfl⟩⟩
              | false =>
                obtain ⟨q, h1, h2⟩ := lookB hv0 hd r l (j + 1) (by simpa using hl) (fun i e q h3 h4 => hE (i + 1) e q (by simpa using h3) (by simpa using h4)) (hok.2 rfl)
                exact ⟨q, by rw [Instr.findNow, hq]; exact h1, h2⟩
            · exact hok.elim
          · cases hk
        | agg cs => exact absurd hg (by simp [aggB])
        | _ => cases hk
      · exact hok.elim
theorem key_ok (hT : TyOk P ty) {s : St} {a : Act} {w : World} {g : Gh} (hS : Slots w g s a) {KT : Nat} (hKT : (tyLook KT ty).ok = true) {i : Operand} {f : Nat → AV → Tree} {n : Tree} {es : List (AV × AV)} {l : List MapEntry} (hl : l.length = es.length)
    (hE : ∀ (j : Nat) e q, l[j]? = some e → es[j]? = some q → EntR w g.A e q) (hok : (keyT ty KT (ev s i) (lookT std (ev s i) f n 0 es)).ok P w0 g0 o0 N Q) :
    ∃ kv, keyV (ev s i) = some kv ∧ a.eval i = kv ∧ (∀ b W, (Instr.checkKey b 10000 KT kv).run P W = .ok () W) ∧ ∃ r, (∀ W, (Instr.findKey KT kv l).run P W = .ok r W) ∧ Fnd P w0 g0 o0 N Q w g.A f n r := by
  have hr := ev_rel hS i
  have ti := ty_ok hT hKT
  unfold keyT at hok
  split at hok
  · rename_i cs hx
    rw [hx] at hr hok
    split at hok
    · rename_i sh hsh
      split at hok
      · rename_i hkd
        obtain ⟨hK, hok⟩ := hok
        obtain ⟨us, hu, hur⟩ := hr
        obtain ⟨fs, hst, _⟩ := ti.strct hkd
        have hv0 : allV0 cs = some us.toList := vals0_of hsh hur
        have e1 := shA_srt hsh hur
        refine ⟨.agg us, by rw [hx]; simp [keyV, hv0], hu, fun b W => ?_, ?_⟩
        · exact hK.1 us.toList b W e1
        · obtain ⟨r, h1, h2⟩ := lookA hv0 hsh hK es l 0 hl hE hok
          refine ⟨r, fun W => ?_, h2⟩
          have h1 := h1 W
          cases l with
          | nil =>
            unfold Instr.findKey
            rw [Sem.run_bind, run_underlying hst]
            simp only [Result.andThen_ok, Instr.findNow]
            simpa [Instr.findAsking] using h1
          | cons e l =>
            unfold Instr.findKey
            rw [Sem.run_bind, run_underlying hst]
            simp only [Result.andThen_ok, Instr.findNow, Instr.sameNow]
            exact h1
      · exact hok.elim
    · exact hok.elim
  · rename_i b hx
    rw [hx] at hr hok
    split at hok
    · rename_i hkd
      have hst := ti.str hkd
      obtain ⟨r, h1, h2⟩ := lookB (d := .string) (v0 := .string b) rfl (.inl ⟨rfl, b, rfl⟩) es l 0 hl hE hok
      refine ⟨.string b, by rw [hx]; rfl, hr.valEq, fun c W => ?_, r, fun W => ?_, h2⟩
      · show (Instr.checkKey c (9999 + 1) KT _).run P W = _
        unfold Instr.checkKey
        rw [Sem.run_bind, run_underlying hst]; rfl
      · unfold Instr.findKey
        rw [Sem.run_bind, run_underlying hst]
        simp only [Result.andThen_ok, h1]; rfl
    · exact hok.elim
  · rename_i k m hx
    rw [hx] at hr hok
    split at hok
    · rename_i hkd
      obtain ⟨k2, hst⟩ : ∃ k2, P.underlying KT = some (.int k2) := by
        obtain ⟨d, h1, h2⟩ := ti.u
        cases d <;> simp [shapeOf] at h2 <;> first | (simp_all; done) | omega | exact ⟨_, h1⟩
      obtain ⟨r, h1, h2⟩ := lookB (d := .int k2) (v0 := .int k m) rfl (.inr ⟨k2, k, m, rfl, rfl⟩) es l 0 hl hE hok
      refine ⟨.int k m, by rw [hx]; rfl, hr.valEq, fun c W => ?_, r, fun W => ?_, h2⟩
      · show (Instr.checkKey c (9999 + 1) KT _).run P W = _
        unfold Instr.checkKey
        rw [Sem.run_bind, run_underlying hst]; rfl
      · unfold Instr.findKey
        rw [Sem.run_bind, run_underlying hst]
        simp only [Result.andThen_ok, h1]; rfl
    · exact hok.elim
  · exact hok.elim
theorem pur_rel1 {w : World} {g : Gh} {ob : List Ob} {v : Value} {x : AV} (h : ARel w g ob v x) (hp : x.pur = true) : PRel1 w g.A v x := by
  have h0 : ∀ {y : Value} {u : AV}, u.pur0 = true → ARel0 w g ob y u → PRel w g.A y u := fun {y u} hu h => by
    cases u <;> first | exact h | cases hu
  cases x with
  | agg cs =>
    obtain ⟨vs, rfl, h1, h2⟩ := h
    exact ⟨vs, rfl, h1, fun j y u hy hu => h0 (List.all_eq_true.1 hp u (List.mem_of_getElem? hu)) (h2 j y u hy hu).1⟩
  | val a => exact h0 (u := .val a) hp h
  | slc a b => exact h0 (u := .slc a b) hp h
  | ref a => exact h0 (u := .ref a) hp h
  | opt a => exact h0 (u := .opt a) hp h
  | _ => cases hp
theorem rel1_to {w : World} {g : Gh} {ob : List Ob} {v : Value} {x : AV} (h : PRel1 w g.A v x) (hl : x.live = true) : ARel1 w g ob v x := by
  cases x with
  | agg cs => obtain ⟨vs, rfl, h1, h2⟩ := h; exact ⟨vs, rfl, h1, fun j y u hy hu => ⟨(h2 j y u hy hu).to0, (h2 j y u hy hu).one⟩⟩
  | dead => cases hl
  | tup _ => cases hl
  | val a => exact PRel.to0 (ob := ob) (x := .val a) h
  | slc a b => exact PRel.to0 (ob := ob) (x := .slc a b) h
  | ref a => exact PRel.to0 (ob := ob) (x := .ref a) h
  | opt a => exact PRel.to0 (ob := ob) (x := .opt a) h
  | box a b => exact PRel.to0 (ob := ob) (x := .box a b) h
  | row a b => exact PRel.to0 (ob := ob) (x := .row a b) h
  | rowk a b c => exact PRel.to0 (ob := ob) (x := .rowk a b c) h
  | rptr a b c d => exact PRel.to0 (ob := ob) (x := .rptr a b c d) h
  | kb a => exact PRel.to0 (ob := ob) (x := .kb a) h
  | iter a => exact PRel.to0 (ob := ob) (x := .iter a) h
theorem rel1_live {w : World} {A : Nat → Nat → Prop} {v : Value} {x : AV} (h : PRel1 w A v x) : x.live = true := by
  cases x <;> first | rfl | (exfalso; cases (show PRel w A v _ from h))
theorem look_rel {w : World} {g : Gh} {ob : List Ob} {v : Value} {u : AV} {c b : Bool} (h : PRel1 w g.A v u) : ARel w g ob (if c then .tuple #[v, .bool b] else v) (lookR c u b) := by
  have h1 : ARel1 w g ob v u := rel1_to h (rel1_live h)
  cases c with
  | true =>
    refine ⟨#[v, .bool b], rfl, rfl, fun j y z hy hz => ?_⟩
    match j, hy, hz with
    | 0, hy, hz => cases hy; cases hz; exact h1
    | 1, hy, hz => cases hy; cases hz; exact PRel.val _ rfl
    | j + 2, hy, hz => simp at hy
  | false => exact h1.to
def lookRest (K E : TypeId) (ents : Array MapEntry) (kv : Value) (c : Bool) : Sem Value := do
  Instr.checkKey ents.isEmpty 10000 K kv
  let (v, ok) ← match ← Instr.findKey K kv ents.toList with
    | some (_, v) => pure (v, true)
    | none => pure (← zeroValue E, false)
  pure (if c then .tuple #[v, .bool ok] else v)
theorem op_look (hT : TyOk P ty) {K : St → Tree} {o : Oper} {s : St} {a : Act} {w : World} {R : Exit → Act → World → Prop} (hs : Sim w0 g0 o0 N s a w) (hd : ∀ t, o.dst = some t → t < N)
    {T : Nat} {x i : Operand} {c : Bool} (ho : o.op = .lookup T x i c) (hok : (aopLook std ty K o s T x i c).ok P w0 g0 o0 N Q) : o.wp P a w (Good ty P w0 g0 o0 N Q K o.op w) R := by
  obtain ⟨g, M, hS, h0⟩ := hs.rel
  unfold aopLook at hok
  split at hok
  · rename_i es hm
    split at hok
    · rename_i hk
      obtain ⟨hk1, hk2, hk3, hk4⟩ := hk
      have hst := (ty_ok hT hk1).mapT hk2
      have hxr := ev_rel hS x
      have hmap : ∃ ents : Array MapEntry, ents.size = es.length ∧ (∀ (j : Nat) e q, ents[j]? = some e → es[j]? = some q → EntR w g.A e q) ∧
          ∀ kv V, (lookRest (mapKT ty T) (tyLook T ty).elem ents kv c).run P w = .ok V w → (Instr.lookup T (a.eval x) kv c).run P w = .ok V w := by
        unfold mapOf at hm
        split at hm
        · rename_i hx
          rw [hx] at hxr
          obtain rfl : [] = es := by simpa using hm
          refine ⟨#[], rfl, fun j e q h => by simp at h, fun kv V h => ?_⟩
          rw [hxr.valEq]
          unfold Instr.lookup
          rw [Sem.run_bind, run_underlying hst]
          simp only [Result.andThen_ok]
          rw [Sem.run_bind, Sem.run_pure]
          exact h
        · rename_i id hx
          rw [hx] at hxr
          split at hm
          · rename_i es' hob
            obtain rfl : es' = es := by simpa using hm
            obtain ⟨hG, ents, clock, h1, h2, h3⟩ := M.iter id _ hob
            obtain ⟨k, h4, h5⟩ := hxr
            rw [hob] at h5
            obtain rfl : k = true := h5
            refine ⟨ents, h2, h3, fun kv V h => ?_⟩
            have hget : (getObj (g.loc id)).run P w = .ok (.map ents clock) w := by simp [getObj, Sem.run, h1]
            rw [h4]
            unfold Instr.lookup itVal
            rw [Sem.run_bind, run_underlying hst]
            simp only [Result.andThen_ok]
            rw [Sem.run_bind, hget]
            simp only [Result.andThen_ok]
            rw [Sem.run_bind, Sem.run_pure]
            exact h
          · cases hm
        · cases hm
      obtain ⟨ents, e1, e2, e3⟩ := hmap
      obtain ⟨kv, q1, q2, q3, r, q4, hF⟩ := key_ok hT hS hk4 (l := ents.toList) (by simpa using e1) (fun j e q h1 h2 => e2 j e q (by simpa using h1) h2) hok
      have fin : ∀ (V : Value) (u : AV) (b : Bool), PRel1 w g.A V u → (Instr.lookup T (a.eval x) (a.eval i) c).run P w = .ok (if c then .tuple #[V, .bool b] else V) w → (K (St.put s o.dst (lookR c u b))).ok P w0 g0 o0 N Q → o.wp P a w (Good ty P w0 g0 o0 N Q K o.op w) R := fun V u b hV hrun hok => by
        have hr : (execOp a.eval o).run P w = .ok (.value (if c then .tuple #[V, .bool b] else V)) w := by
          simp only [execOp, ho]
          exact run_valW hrun
        exact wp_ok hr ⟨fun _ => Below.refl _ w, _, sim_put hs hS h0 M Step.refl hd (look_rel hV), hok⟩
      rcases hF with ⟨m, v, u, rfl, hV, hok⟩ | ⟨rfl, hok⟩
      · refine fin v u true hV ?_ hok
        rw [q2]
        refine e3 kv _ ?_
        unfold lookRest
        rw [Sem.run_bind, q3]
        simp only [Result.andThen_ok]
        rw [Sem.run_bind, q4]
        simp only [Result.andThen_ok, Sem.run_bind, Sem.run_pure]
      · split at hok
        · rename_i hz
          have te := ty_ok hT hk3
          obtain ⟨z, z1, z2⟩ := te.zeroV
          have hzz : ∃ zs : Array Value, z = .agg zs := by
            have hsz : z.cells.size = (tyLook (tyLook T ty).elem ty).size := by rw [← te.zl, ← z1]; simp
            cases z <;> first | exact ⟨_, rfl⟩ | exact absurd hsz.symm hz.2
          obtain ⟨zs, rfl⟩ := hzz
          have hzr : PRel1 w g.A (.agg zs) (.agg ((tyLook (tyLook T ty).elem ty).zero.map .val)) := by
            refine ⟨zs, rfl, ?_⟩
            have e4 : zs.toList = (tyLook (tyLook T ty).elem ty).zero := z1
            rw [e4]
            refine ⟨by simp, fun j y u hy hu => ?_⟩
            rw [List.getElem?_map, hy] at hu
            obtain rfl : AV.val y = u := by simpa using hu
            exact PRel.val _ (List.all_eq_true.1 te.zone y (List.mem_of_getElem? hy))
          refine fin (.agg zs) _ false hzr ?_ hok
          rw [q2]
          refine e3 kv _ ?_
          unfold lookRest
          rw [Sem.run_bind, q3]
          simp only [Result.andThen_ok]
          rw [Sem.run_bind, q4]
          simp only [Result.andThen_ok]
          rw [Sem.run_bind, z2]
          simp only [Result.andThen_ok, Sem.run_bind, Sem.run_pure]
        · exact hok.elim
    · exact hok.elim
  · exact hok.elim
theorem op_mapPut (hT : TyOk P ty) {K : St → Tree} {o : Oper} {s : St} {a : Act} {w : World} {R : Exit → Act → World → Prop} (hs : Sim w0 g0 o0 N s a w) (hd : ∀ t, o.dst = some t → t < N)
    {T : Nat} {m i x : Operand} (ho : o.op = .mapUpdate T m i x) (hok : (aopPut std ty K o s T m i x).ok P w0 g0 o0 N Q) : o.wp P a w (Good ty P w0 g0 o0 N Q K o.op w) R := by
  obtain ⟨g, M, hS, h0⟩ := hs.rel
  unfold aopPut at hok
  split at hok
  · rename_i id hm
    split at hok
    · rename_i es hob
      split at hok
      · rename_i hk
        obtain ⟨hk1, hk2, hk3, hk4⟩ := hk
        have hst := (ty_ok hT hk1).mapT hk2
        have hmr := ev_rel hS m
        rw [hm] at hmr
        obtain ⟨hG, ents, clock, h1, h2, h3⟩ := M.iter id _ hob
        obtain ⟨k, h4, h5⟩ := hmr
        rw [hob] at h5
        obtain rfl : k = true := h5
        obtain ⟨kv, q1, q2, q3, r, q4, hF⟩ := key_ok hT hS hk3 (l := ents.toList) (by simpa using h2) (fun j e q h6 h7 => h3 j e q (by simpa using h6) h7) hok
        rcases hF with ⟨_, _, _, _, _, hok⟩ | ⟨rfl, hok⟩
        · exact hok.elim
        · have hget : (getObj (g.loc id)).run P w = .ok (.map ents clock) w := by simp [getObj, Sem.run, h1]
          obtain ⟨o', ho'⟩ : ∃ o', o' = Obj.map (ents.push { key := kv, val := a.eval x, born := clock }) (clock + 1) := ⟨_, rfl⟩
          have hset : (setObj (g.loc id) o').run P w = .ok () { w with heap := w.heap.setIfInBounds (g.loc id) o' } := by
            simp only [setObj, Sem.run, h1]
          have hI : ItRel w g.A (.map (es ++ [(ev s i, ev s x)])) (some o') := by
            refine ⟨_, _, by rw [ho'], by simp [h2], fun j e q h6 h7 => ?_⟩
            by_cases hj : j < es.length
            · rw [Array.getElem?_push, if_neg (by omega)] at h6
              rw [List.getElem?_append_left hj] at h7
              exact h3 j e q h6 h7
            · have hje : j = es.length := by have := lt_of_some h7; simp at this; omega
              subst hje
              rw [Array.getElem?_push, if_pos h2.symm] at h6
              rw [List.getElem?_append_right (Nat.le_refl _)] at h7
              simp at h6 h7
              subst h6 h7
              exact ⟨q1, pur_rel1 (ev_rel hS x) hk4⟩
          obtain ⟨M', S'⟩ := iter_set M (x' := .map (es ++ [(ev s i, ev s x)])) (o' := o') hob (fun h => h) hI
          have hr : (execOp a.eval o).run P w = .ok .skip { w with heap := w.heap.setIfInBounds (g.loc id) o' } := by
            simp only [execOp, ho, h4, q2]
            have hrun : (Instr.mapUpdate T (itVal true (g.loc id)) kv (a.eval x)).run P w = .ok () { w with heap := w.heap.setIfInBounds (g.loc id) o' } := by
              unfold Instr.mapUpdate itVal
              rw [Sem.run_bind, run_underlying hst]
              simp only [Result.andThen_ok]
              rw [Sem.run_bind, hget]
              simp only [Result.andThen_ok]
              rw [show (tyLook T ty).key = mapKT ty T from rfl, Sem.run_bind, q3 false w]
              simp only [Result.andThen_ok]
              rw [Sem.run_bind, q4 w]
              simp only [Result.andThen_ok]
              rw [← ho']
              exact hset
            rw [Sem.run_bind, hrun]; rfl
          unfold Oper.wp
          rw [hr]
          exact ⟨fun h => by simp [ho, quietW] at h, _, sim_put hs hS h0 M' S' hd (v := undef) (x := .dead) trivial, hok⟩
      · exact hok.elim
    · exact hok.elim
  · exact hok.elim
end
end Go.Proofs.YtaklahcbeldbhaaGreatDoor
namespace Go.Proofs.YtaklahcbeldbhaaGreatDoor
open Go.RowKit Go.Lib
theorem posOf_get {i : Nat} : ∀ {ρ : List Nat} {j : Nat}, posOf i ρ = some j → ρ[j]? = some i
  | [], j, h => by cases h
  | k :: r, j, h => by
    simp only [posOf] at h
    split at h
    · rename_i e
      cases h; subst e; rfl
    · obtain ⟨j', h1, rfl⟩ := Option.map_eq_some_iff.1 h
      simpa using posOf_get h1
theorem posOf_some {i : Nat} : ∀ {ρ : List Nat} {j : Nat}, ρ[j]? = some i → ∃ j', posOf i ρ = some j'
  | [], j, h => by simp at h
  | k :: r, j, h => by
    simp only [posOf]
    split
    · exact ⟨0, rfl⟩
    · rename_i hne
      cases j with
      | zero => exact absurd (by simpa using h.symm) hne
      | succ j =>
        obtain ⟨j', h1⟩ := posOf_some (ρ := r) (j := j) (by simpa using h)
        exact ⟨j' + 1, by rw [h1]; rfl⟩
section
variable {ob : List Ob} {ρ : List Nat}
theorem map_get {j i : Nat} (h : ρ[j]? = some i) : (ρ.map some)[j]? = some (some i) := by rw [List.getElem?_map, h]; rfl
theorem get_map {j i : Nat} (h : (ρ.map some)[j]? = some (some i)) : ρ[j]? = some i := by
  rw [List.getElem?_map, Option.map_eq_some_iff] at h
  obtain ⟨k, h1, h2⟩ := h
  cases h2; exact h1
theorem posOf_once (h : onceR (ρ.map some) = true) {i j : Nat} (hj : ρ[j]? = some i) : posOf i ρ = some j := by
  obtain ⟨j', hj'⟩ := posOf_some hj
  have h1 := onceR_get h (map_get hj)
  have h2 := onceR_get h (map_get (posOf_get hj'))
  rw [h1] at h2
  cases h2; exact hj'
abbrev inObs (ob : List Ob) (ρ : List Nat) : List Ob := ρ.map fun i => inO ob ρ (ob.getD i .gone)
theorem inObs_get {i j : Nat} (hj : ρ[j]? = some i) : (inObs ob ρ)[j]? = some (inO ob ρ (ob.getD i .gone)) := by
  simp only [inObs, List.getElem?_map, hj, Option.map_some]
theorem getD_of {i : Nat} {o : Ob} (h : ob[i]? = some o) : ob.getD i .gone = o := by rw [List.getD_eq_getElem?_getD, h]; rfl
theorem ren0_in (x : AV) : ∃ l, ren0 ob (inObs ob ρ) (ρ.map some) x (inC ob ρ x) = some l ∧ AllEq l := by
  have dead : ∃ l, ren0 ob (inObs ob ρ) (ρ.map some) x .dead = some l ∧ AllEq l := ⟨[], rfl, trivial⟩
  cases x with
  | val v => cases v <;> exact ⟨_, rfl, rfl, trivial⟩
  | slc sz xs => exact ⟨_, rfl, rfl, trivial⟩
  | ref cs => exact ⟨_, rfl, rfl, trivial⟩
  | opt y => exact ⟨_, rfl, rfl, trivial⟩
  | kb b => exact ⟨_, rfl, rfl, trivial⟩
  | box i o =>
    simp only [inC]
    split
    · rename_i j hj
      exact ⟨[(.box i o, .box i o)], by simp only [ren0, map_get (posOf_get hj)], rfl, trivial⟩
    · exact dead
  | iter i =>
    simp only [inC]
    split
    · rename_i j hj
      exact ⟨[(.iter i, .iter i)], by simp only [ren0, map_get (posOf_get hj)], rfl, trivial⟩
    · exact dead
  | row i e =>
    simp only [inC]
    split
    · rename_i j hj
      split
      · rename_i et sz fz e2 xs hob
        split
        · rename_i he
          subst he
          refine ⟨[(.row i e2, .row i e2)], ?_, rfl, trivial⟩
          have h1 := inObs_get (ob := ob) (posOf_get hj)
          rw [getD_of hob] at h1
          simp only [ren0, h1, inO, if_true, map_get (posOf_get hj), hob]
        · exact dead
      · exact dead
    · exact dead
  | _ => exact dead
theorem renL_in : ∀ (xs : List AV), ∃ l, renL ob (inObs ob ρ) (ρ.map some) xs (xs.map (inC ob ρ)) = some l ∧ AllEq l
  | [] => ⟨[], rfl, trivial⟩
  | x :: r => by
    obtain ⟨l1, h1, h2⟩ := ren0_in (ob := ob) (ρ := ρ) x
    obtain ⟨l2, h3, h4⟩ := renL_in r
    exact ⟨l1 ++ l2, by simp only [List.map_cons, renL, h1, h3, both], allEq_append.2 ⟨h2, h4⟩⟩
theorem ren1_in (x : AV) : ∃ l, ren1 ob (inObs ob ρ) (ρ.map some) x (inA ob ρ x) = some l ∧ AllEq l := by
  cases x with
  | agg cs => exact renL_in cs
  | val v => exact ren0_in (ob := ob) (ρ := ρ) (.val v)
  | slc sz xs => exact ren0_in (ob := ob) (ρ := ρ) (.slc sz xs)
  | ref cs => exact ren0_in (ob := ob) (ρ := ρ) (.ref cs)
  | opt y => exact ren0_in (ob := ob) (ρ := ρ) (.opt y)
  | kb b => exact ren0_in (ob := ob) (ρ := ρ) (.kb b)
  | box i o =>
    obtain ⟨l, h1, h2⟩ := ren0_in (ob := ob) (ρ := ρ) (.box i o)
    refine ⟨l, ?_, h2⟩
    show ren1 _ _ _ _ (inC ob ρ (.box i o)) = _
    revert h1
    simp only [inC]
    split <;> exact id
  | iter i =>
    obtain ⟨l, h1, h2⟩ := ren0_in (ob := ob) (ρ := ρ) (.iter i)
    refine ⟨l, ?_, h2⟩
    show ren1 _ _ _ _ (inC ob ρ (.iter i)) = _
    revert h1
    simp only [inC]
    split <;> exact id
  | row i e =>
    obtain ⟨l, h1, h2⟩ := ren0_in (ob := ob) (ρ := ρ) (.row i e)
    refine ⟨l, ?_, h2⟩
    show ren1 _ _ _ _ (inC ob ρ (.row i e)) = _
    revert h1
    simp only [inC]
    split <;> (try split) <;> (try split) <;> exact id
  | _ => exact ⟨[], rfl, trivial⟩
theorem fits_in (ht : there ob ρ = true) : Fits ob (inObs ob ρ) (ρ.map some) := by
  refine ⟨by simp, fun j i o hi ho => ?_⟩
  rw [List.getElem?_map, Option.map_eq_some_iff] at hi
  obtain ⟨k, hk, rfl⟩ := hi
  rw [inObs_get hk] at ho
  cases ho
  have h := List.all_eq_true.1 ht k (List.mem_of_getElem? hk)
  cases hob : ob[k]? with
  | none => rw [hob] at h; cases h
  | some q =>
    rw [getD_of hob]
    cases q with
    | gone => rw [hob] at h; cases h
    | box cs => simp only [inO, renOb, hob]; exact renL_in cs
    | fbox cs => exact ⟨[(.slc 0 cs, .slc 0 cs)], by simp only [inO, renOb, hob], rfl, trivial⟩
    | row et sz fz e xs => exact ⟨[(.slc 0 xs, .slc 0 xs)], by simp only [inO, renOb, hob]; simp, rfl, trivial⟩
    | iter y =>
      cases y with
      | str s p => exact ⟨[(.val (.string s), .val (.string s)), (.box 0 p, .box 0 p)], by simp only [inO, renOb, hob], rfl, rfl, trivial⟩
      | map es => exact ⟨[(.tup (flatE es), .tup (flatE es))], by simp only [inO, renOb, hob], rfl, trivial⟩
theorem inA_rel {w : World} {g : Gh} (ho : onceR (ρ.map some) = true) (ht : there ob ρ = true) {v : Value} {x : AV} (h : ARel w g ob v x) : ARel w (g.ren (ρ.map some)) (inObs ob ρ) v (inA ob ρ x) := by
  obtain ⟨l, h1, h2⟩ := ren1_in (ob := ob) (ρ := ρ) x
  exact ren1_rel (fits_in ht) ho h h1 h2
theorem mem_in {w : World} {g : Gh} (M : Mem w g ob) (ho : onceR (ρ.map some) = true) (ht : there ob ρ = true) : Mem w (g.ren (ρ.map some)) (inObs ob ρ) := M.ren (fits_in ht) ho
end
def Gh.out (g g' : Gh) (ρ : List Nat) (n : Nat) : Gh where
  A := g'.A
  G b := match g'.G b with
    | some j => some (outI ρ n j)
    | none => match g.G b with
      | some id => match posOf id ρ with
        | some _ => none
        | none => some id
      | none => none
  loc id := match posOf id ρ with
    | some j => g'.loc j
    | none => if id < n then g.loc id else g'.loc (ρ.length + (id - n))
  sub b := match g'.G b with
    | some _ => g'.sub b
    | none => match g.G b with
      | some id => match posOf id ρ with
        | some _ => false
        | none => g.sub b
      | none => false
section
variable {w w' : World} {g g' : Gh} {ob ob' : List Ob} {ρ : List Nat}
structure CallAt (w : World) (g : Gh) (ob : List Ob) (ρ : List Nat) (w' : World) (g' : Gh) (ob' : List Ob) : Prop where
  once : onceR (ρ.map some) = true
  there : there ob ρ = true
  len : ρ.length ≤ ob'.length
  m : Mem w g ob
  m' : Mem w' g' ob'
  st : Step w (g.ren (ρ.map some)) (inObs ob ρ) w' g' ob'
theorem CallAt.lt (C : CallAt w g ob ρ w' g' ob') {i j : Nat} (hj : ρ[j]? = some i) : i < ob.length := by
  have h := List.all_eq_true.1 C.there i (List.mem_of_getElem? hj)
  cases hob : ob[i]? with
  | none => rw [hob] at h; cases h
  | some _ => exact lt_of_some hob
theorem CallAt.outI_lt (C : CallAt w g ob ρ w' g' ob') {j : Nat} (hj : j < ob'.length) : outI ρ ob.length j < ob.length + (ob'.length - ρ.length) := by
  unfold outI
  split
  · rename_i h
    have h1 : ρ[j]? = some (ρ.getD j 0) := by rw [List.getD_eq_getElem?_getD, List.getElem?_eq_getElem h]; rfl
    have := C.lt h1
    omega
  · have := C.len; omega
theorem CallAt.outI_at (C : CallAt w g ob ρ w' g' ob') (j : Nat) : (j < ρ.length ∧ ρ[j]? = some (outI ρ ob.length j) ∧ outI ρ ob.length j < ob.length) ∨ (ρ.length ≤ j ∧ outI ρ ob.length j = ob.length + (j - ρ.length)) := by
  unfold outI
  split
  · rename_i h
    have h1 : ρ[j]? = some (ρ.getD j 0) := by rw [List.getD_eq_getElem?_getD, List.getElem?_eq_getElem h]; rfl
    exact .inl ⟨h, h1, C.lt h1⟩
  · exact .inr ⟨by omega, rfl⟩
theorem CallAt.outI_inj (C : CallAt w g ob ρ w' g' ob') {j j' : Nat} (h : outI ρ ob.length j = outI ρ ob.length j') : j = j' := by
  rcases C.outI_at j with ⟨h1, h2, h3⟩ | ⟨h1, h2⟩ <;> rcases C.outI_at j' with ⟨h4, h5, h6⟩ | ⟨h4, h5⟩
  · rw [h] at h2
    have := (posOf_once C.once h2).symm.trans (posOf_once C.once h5)
    exact Option.some.inj this
  · omega
  · omega
  · omega
theorem CallAt.outI_not (C : CallAt w g ob ρ w' g' ob') {j : Nat} (hp : posOf (outI ρ ob.length j) ρ = none) (hl : outI ρ ob.length j < ob.length) : False := by
  rcases C.outI_at j with ⟨h1, h2, h3⟩ | ⟨h1, h2⟩
  · rw [posOf_once C.once h2] at hp; cases hp
  · omega
theorem CallAt.back_len (C : CallAt w g ob ρ w' g' ob') : (back ob ρ ob').length = ob.length + (ob'.length - ρ.length) := by simp [back]
theorem CallAt.back_out (C : CallAt w g ob ρ w' g' ob') {j : Nat} {o : Ob} (hj : ob'[j]? = some o) : (back ob ρ ob')[outI ρ ob.length j]? = some (outO ob ρ j o) := by
  have hl := lt_of_some hj
  have h1 := C.outI_lt hl
  simp only [back, List.getElem?_map, List.getElem?_range h1, Option.map_some]
  unfold outI
  by_cases h : j < ρ.length
  · rw [if_pos h]
    have h2 : ρ[j]? = some (ρ.getD j 0) := by rw [List.getD_eq_getElem?_getD, List.getElem?_eq_getElem h]; rfl
    simp only [posOf_once C.once h2, getD_of hj]
  · rw [if_neg h]
    have h2 : posOf (ob.length + (j - ρ.length)) ρ = none := by
      cases hp : posOf (ob.length + (j - ρ.length)) ρ with
      | none => rfl
      | some k => have := C.lt (posOf_get hp); omega
    have h3 : ¬ (ob.length + (j - ρ.length) < ob.length) := by omega
    have h4 : ρ.length + (ob.length + (j - ρ.length) - ob.length) = j := by omega
    simp only [h2, h3, if_false, h4, getD_of hj]
theorem CallAt.back_own (C : CallAt w g ob ρ w' g' ob') {id : Nat} (hid : id < ob.length) (hp : posOf id ρ = none) : (back ob ρ ob')[id]? = ob[id]? := by
  have h1 : id < ob.length + (ob'.length - ρ.length) := by omega
  simp only [back, List.getElem?_map, List.getElem?_range h1, Option.map_some, hp, hid, if_true]
  rw [List.getElem?_eq_getElem hid, List.getD_eq_getElem?_getD, List.getElem?_eq_getElem hid]; rfl
theorem CallAt.back_cases (C : CallAt w g ob ρ w' g' ob') {id : Nat} {o : Ob} (h : (back ob ρ ob')[id]? = some o) :
    (∃ j o', ob'[j]? = some o' ∧ id = outI ρ ob.length j ∧ o = outO ob ρ j o') ∨ (id < ob.length ∧ posOf id ρ = none ∧ ob[id]? = some o) := by
  have hlt := lt_of_some h
  rw [C.back_len] at hlt
  cases hp : posOf id ρ with
  | some j =>
    left
    have hj := posOf_get hp
    have hl : j < ob'.length := Nat.lt_of_lt_of_le (lt_of_some hj) C.len
    have e : outI ρ ob.length j = id := by
      unfold outI
      rw [if_pos (lt_of_some hj), List.getD_eq_getElem?_getD, hj]; rfl
    refine ⟨j, _, List.getElem?_eq_getElem hl, e.symm, ?_⟩
    have h2 := C.back_out (List.getElem?_eq_getElem hl)
    rw [e, h] at h2
    exact Option.some.inj h2
  | none =>
    by_cases hid : id < ob.length
    · rw [C.back_own hid hp] at h
      exact .inr ⟨hid, rfl, h⟩
    · left
      have hl : ρ.length + (id - ob.length) < ob'.length := by have := C.len; omega
      have e : outI ρ ob.length (ρ.length + (id - ob.length)) = id := by
        unfold outI
        rw [if_neg (by omega)]; omega
      refine ⟨_, _, List.getElem?_eq_getElem hl, e.symm, ?_⟩
      have h2 := C.back_out (List.getElem?_eq_getElem hl)
      rw [e, h] at h2
      exact Option.some.inj h2
theorem CallAt.loc_out (C : CallAt w g ob ρ w' g' ob') {j : Nat} : (g.out g' ρ ob.length).loc (outI ρ ob.length j) = g'.loc j := by
  unfold outI
  by_cases h : j < ρ.length
  · rw [if_pos h]
    have h2 : ρ[j]? = some (ρ.getD j 0) := by rw [List.getD_eq_getElem?_getD, List.getElem?_eq_getElem h]; rfl
    simp only [Gh.out, posOf_once C.once h2]
  · rw [if_neg h]
    have h2 : posOf (ob.length + (j - ρ.length)) ρ = none := by
      cases hp : posOf (ob.length + (j - ρ.length)) ρ with
      | none => rfl
      | some k => have := C.lt (posOf_get hp); omega
    have h3 : ¬ (ob.length + (j - ρ.length) < ob.length) := by omega
    have h4 : ρ.length + (ob.length + (j - ρ.length) - ob.length) = j := by omega
    simp only [Gh.out, h2, h3, if_false, h4]
theorem out_sub {j b : Nat} (h : g'.G b = some j) : (g.out g' ρ ob.length).sub b = g'.sub b := by simp only [Gh.out, h]
theorem out_sub' {id b : Nat} (h : g'.G b = none) (h1 : g.G b = some id) (hp : posOf id ρ = none) : (g.out g' ρ ob.length).sub b = g.sub b := by simp only [Gh.out, h, h1, hp]
theorem out_G {j b : Nat} (h : g'.G b = some j) : (g.out g' ρ ob.length).G b = some (outI ρ ob.length j) := by simp only [Gh.out, h]
theorem CallAt.own_G (C : CallAt w g ob ρ w' g' ob') {b id : Nat} (h : g.G b = some id) (hp : posOf id ρ = none) :
    (g.ren (ρ.map some)).G b = none ∧ g'.G b = none ∧ (g.out g' ρ ob.length).G b = some id ∧ w'.heap[b]? = w.heap[b]? := by
  have h1 : (g.ren (ρ.map some)).G b = none := by
    cases hr : (g.ren (ρ.map some)).G b with
    | none => rfl
    | some j =>
      obtain ⟨i, hi, hG⟩ := ren_Gof hr
      rw [h] at hG; cases hG
      obtain ⟨j', hj'⟩ := posOf_some (get_map hi)
      rw [hp] at hj'; cases hj'
  have hb := (C.m.own b id h).1
  have h2 : g'.G b = none := by
    cases hr : g'.G b with
    | none => rfl
    | some j =>
      rcases C.st.own b j hr with ⟨k, hk⟩ | hk
      · rw [h1] at hk; cases hk
      · omega
  exact ⟨h1, h2, by simp only [Gh.out, h2, h, hp], C.st.keep b hb h1⟩
theorem CallAt.G_cases (C : CallAt w g ob ρ w' g' ob') {b id : Nat} (h : (g.out g' ρ ob.length).G b = some id) :
    (∃ j, g'.G b = some j ∧ id = outI ρ ob.length j) ∨ (g'.G b = none ∧ g.G b = some id ∧ posOf id ρ = none) := by
  simp only [Gh.out] at h
  cases h1 : g'.G b with
  | some j => rw [h1] at h; exact .inl ⟨j, rfl, (Option.some.inj h).symm⟩
  | none =>
    rw [h1] at h
    cases h2 : g.G b with
    | none => rw [h2] at h; cases h
    | some k =>
      rw [h2] at h
      cases h3 : posOf k ρ with
      | some _ => simp only [h3] at h; cases h
      | none => simp only [h3] at h; cases h; exact .inr ⟨rfl, rfl, h3⟩
theorem outO_box {j : Nat} {o : Ob} (h : isBox (some o)) : isBox (some (outO ob ρ j o)) := by cases o <;> first | exact h.elim | trivial
theorem outO_it {k : Bool} {j : Nat} {o : Ob} (h : isIt k (some o)) : isIt k (some (outO ob ρ j o)) := by cases o <;> first | exact h.elim | exact h
theorem CallAt.isb_out (C : CallAt w g ob ρ w' g' ob') {j : Nat} (h : isBox ob'[j]?) : isBox (back ob ρ ob')[outI ρ ob.length j]? := by
  have hl := isBox_lt h
  rw [List.getElem?_eq_getElem hl] at h
  rw [C.back_out (List.getElem?_eq_getElem hl)]
  exact outO_box h
theorem CallAt.isi_out (C : CallAt w g ob ρ w' g' ob') {k : Bool} {j : Nat} (h : isIt k ob'[j]?) : isIt k (back ob ρ ob')[outI ρ ob.length j]? := by
  have hl := isIt_lt h
  rw [List.getElem?_eq_getElem hl] at h
  rw [C.back_out (List.getElem?_eq_getElem hl)]
  exact outO_it h
theorem outI_of {i j : Nat} (hj : ρ[j]? = some i) (n : Nat) : outI ρ n j = i := by
  unfold outI
  rw [if_pos (lt_of_some hj), List.getD_eq_getElem?_getD, hj]; rfl
theorem CallAt.ext (C : CallAt w g ob ρ w' g' ob') : Ext w g ob w' (g.out g' ρ ob.length) (back ob ρ ob') := by
  refine ⟨C.st.ext.A, fun id hid => ?_, fun id hb => ?_, fun id hb => ?_, fun id et sz fz e xs hr => ?_, fun b id hG hs => ?_⟩
  rotate_right
  · obtain ⟨et, sz, fz, fz', e, xs, xs', h1, h2⟩ := hs
    cases hp : posOf id ρ with
    | none =>
      obtain ⟨h3, h4, h5, h6⟩ := C.own_G hG hp
      refine ⟨out_sub' h4 hG hp, fun _ o hA => ?_⟩
      rcases C.st.imm b o hA with h7 | ⟨k, h7⟩ | h7
      · exact h7
      · rw [h3] at h7; cases h7
      · have := (C.m.own b id hG).1; omega
    | some j =>
      have hj := posOf_get hp
      have h3 : (inObs ob ρ)[j]? = some (.row et sz fz 0 xs) := by rw [inObs_get hj, getD_of h1]; rfl
      obtain ⟨fz2, e2, xs2, h4, _, h5⟩ := C.st.ext.row j _ _ _ _ _ h3
      have h6 := C.back_out h4
      rw [outI_of hj, h2] at h6
      have h7 : outE ob ρ j = e := by simp only [outE, hj, epOf, h1]
      simp only [outO, h7] at h6
      have h8 : e2 = 0 := by
        have h9 : e = e + e2 := by injection h6 with h6; injection h6
        omega
      subst h8
      have hG2 := ren_G (g := g) C.once (map_get hj) hG
      obtain ⟨h9, h10⟩ := C.st.ext.sub b j hG2 ⟨_, _, _, _, _, _, _, h3, h4⟩
      have hs2 := ren_sub (g := g) C.once (map_get hj) hG
      refine ⟨(out_sub ((h5 rfl).G hG2)).trans (h9.trans hs2), fun hsb o hA => h10 (hs2.trans hsb) o hA⟩
  · cases hp : posOf id ρ with
    | none => simp only [Gh.out, hp, hid, if_true]
    | some j =>
      have hj := posOf_get hp
      simp only [Gh.out, hp]
      rw [C.st.ext.loc j (by simpa using lt_of_some hj), ren_loc (map_get hj)]
  · cases hp : posOf id ρ with
    | none => rw [C.back_own (isBox_lt hb) hp]; exact hb
    | some j =>
      have hj := posOf_get hp
      have := C.isb_out (C.st.ext.isb j ((fits_in C.there).isB (map_get hj) hb))
      rw [outI_of hj] at this; exact this
  · cases hp : posOf id ρ with
    | none => rw [C.back_own (isIt_lt hb) hp]; exact hb
    | some j =>
      have hj := posOf_get hp
      have := C.isi_out (C.st.ext.isi j ((fits_in C.there).isI (map_get hj) hb))
      rw [outI_of hj] at this; exact this
  · cases hp : posOf id ρ with
    | none =>
      refine ⟨fz, e, xs, by rw [C.back_own (lt_of_some hr) hp]; exact hr, Nat.le_refl _, fun _ => .inl ⟨rfl, fun b hb => ?_⟩⟩
      obtain ⟨_, _, h3, h4⟩ := C.own_G hb hp
      exact ⟨h3, h4⟩
    | some j =>
      have hj := posOf_get hp
      have h1 : (inObs ob ρ)[j]? = some (.row et sz fz 0 xs) := by rw [inObs_get hj, getD_of hr]; rfl
      obtain ⟨fz', e', xs', h2, h3, h4⟩ := C.st.ext.row j _ _ _ _ _ h1
      have h5 := C.back_out h2
      rw [outI_of hj] at h5
      have h6 : outE ob ρ j = e := by simp only [outE, hj, epOf, hr]
      refine ⟨fz', e + e', xs', by rw [h5, ← h6]; rfl, by omega, fun he => ?_⟩
      refine (h4 (by omega)).turn (fun b hb => ⟨ren_G C.once (map_get hj) hb, ren_sub C.once (map_get hj) hb⟩) (fun b _ h9 => ?_) rfl
      rw [out_G h9, outI_of hj]
theorem CallAt.row_out (C : CallAt w g ob ρ w' g' ob') {j et sz : Nat} {v : Value} {xs : List AV} (h : RowV w' g' j et sz v xs) : RowV w' (g.out g' ρ ob.length) (outI ρ ob.length j) et sz v xs := by
  obtain ⟨ys, h1, h2, h3, h4, h5⟩ := h
  exact ⟨ys, h1, fun b hb => out_G (h2 b hb), h3, h4, h5.ext h2 fun b hb => ⟨out_G hb, out_sub hb, fun _ => ⟨rfl, fun _ h => h⟩⟩⟩
theorem CallAt.rel0 (C : CallAt w g ob ρ w' g' ob') {v : Value} {x : AV} (h : ARel0 w' g' ob' v x) : ARel0 w' (g.out g' ρ ob.length) (back ob ρ ob') v (outC ob ρ x) := by
  cases x with
  | box j o => exact ⟨by rw [C.loc_out]; exact h.1, C.isb_out h.2⟩
  | iter j => obtain ⟨k, h1, h2⟩ := h; exact ⟨k, by rw [C.loc_out]; exact h1, C.isi_out h2⟩
  | row j e =>
    obtain ⟨h0, et, sz, fz, e', xs, h1, h2, h3⟩ := h
    refine ⟨h0, et, sz, fz, outE ob ρ j + e', xs, C.back_out h1, by omega, fun he => C.row_out (h3 (by omega))⟩
  | rowk j e k =>
    obtain ⟨h0, et, sz, fz, e', xs, h1, h2, h3⟩ := h
    refine ⟨h0, et, sz, fz, outE ob ρ j + e', xs, C.back_out h1, by omega, fun he => ?_⟩
    obtain ⟨h4, h5, h6⟩ := h3 (by omega)
    exact ⟨h4, h5, C.row_out h6⟩
  | rptr j e i o =>
    obtain ⟨h0, et, sz, fz, e', xs, h1, h2, h3⟩ := h
    refine ⟨h0, et, sz, fz, outE ob ρ j + e', xs, C.back_out h1, by omega, fun he => ?_⟩
    obtain ⟨b, c, h4, h5, h6, h7⟩ := h3 (by omega)
    exact ⟨b, c, h4, h5, h6, C.row_out h7⟩
  | _ => exact h
theorem CallAt.relC (C : CallAt w g ob ρ w' g' ob') {vs : List Value} {cs : List AV} (h : ARelC w' g' ob' vs cs) : ARelC w' (g.out g' ρ ob.length) (back ob ρ ob') vs (cs.map (outC ob ρ)) := by
  refine ⟨by simp [h.1], fun j y u hy hu => ?_⟩
  rw [List.getElem?_map, Option.map_eq_some_iff] at hu
  obtain ⟨u', h1, rfl⟩ := hu
  exact ⟨C.rel0 (h.2 j y u' hy h1).1, (h.2 j y u' hy h1).2⟩
theorem CallAt.rel1 (C : CallAt w g ob ρ w' g' ob') {v : Value} {x : AV} (h : ARel1 w' g' ob' v x) : ARel1 w' (g.out g' ρ ob.length) (back ob ρ ob') v (outA1 ob ρ x) := by
  cases x with
  | agg cs => obtain ⟨vs, rfl, h⟩ := h; exact ⟨vs, rfl, C.relC h⟩
  | tup _ => exact (show False from h).elim
  | val a => exact C.rel0 (x := .val a) h
  | slc a b => exact C.rel0 (x := .slc a b) h
  | ref a => exact C.rel0 (x := .ref a) h
  | opt a => exact C.rel0 (x := .opt a) h
  | box a b => exact C.rel0 (x := .box a b) h
  | row a b => exact C.rel0 (x := .row a b) h
  | rowk a b c => exact C.rel0 (x := .rowk a b c) h
  | rptr a b c d => exact C.rel0 (x := .rptr a b c d) h
  | kb a => exact C.rel0 (x := .kb a) h
  | iter a => exact C.rel0 (x := .iter a) h
  | dead => trivial
theorem CallAt.rel (C : CallAt w g ob ρ w' g' ob') {v : Value} {x : AV} (h : ARel w' g' ob' v x) : ARel w' (g.out g' ρ ob.length) (back ob ρ ob') v (outA ob ρ x) := by
  cases x with
  | tup xs =>
    obtain ⟨vs, rfl, h1, h2⟩ := h
    refine ⟨vs, rfl, by simp [h1], fun j y u hy hu => ?_⟩
    rw [List.getElem?_map, Option.map_eq_some_iff] at hu
    obtain ⟨u', h3, rfl⟩ := hu
    exact C.rel1 (h2 j y u' hy h3)
  | agg cs => exact (C.rel1 (x := .agg cs) h).to
  | val a => exact (C.rel1 (x := .val a) h).to
  | slc a b => exact (C.rel1 (x := .slc a b) h).to
  | ref a => exact (C.rel1 (x := .ref a) h).to
  | opt a => exact (C.rel1 (x := .opt a) h).to
  | box a b => exact (C.rel1 (x := .box a b) h).to
  | row a b => exact (C.rel1 (x := .row a b) h).to
  | rowk a b c => exact (C.rel1 (x := .rowk a b c) h).to
  | rptr a b c d => exact (C.rel1 (x := .rptr a b c d) h).to
  | kb a => exact (C.rel1 (x := .kb a) h).to
  | iter a => exact (C.rel1 (x := .iter a) h).to
  | dead => trivial
theorem CallAt.mem (C : CallAt w g ob ρ w' g' ob') : Mem w' (g.out g' ρ ob.length) (back ob ρ ob') := by
  have E := C.ext
  refine ⟨fun id cs h => ?_, fun id cs h k u hk => ?_, fun id y h => ?_, fun b id h => ?_, fun b o hA => ?_, fun id et sz fz e xs h => ?_, fun b hs => ?_, fun b b' id h1 h2 hs hs' => ?_⟩
  · rcases C.back_cases h with ⟨j, o', h1, rfl, h2⟩ | ⟨hid, hp, h1⟩
    · cases o' <;> cases h2
      rename_i cs'
      obtain ⟨hG, cur, T, h3, h4⟩ := C.m'.box j cs' h1
      exact ⟨by rw [C.loc_out]; exact out_G hG, cur, T, by rw [C.loc_out]; exact h3, C.relC h4⟩
    · obtain ⟨hG, cur, T, h3, h4⟩ := C.m.box id cs h1
      obtain ⟨_, _, h5, h6⟩ := C.own_G hG hp
      have hl : (g.out g' ρ ob.length).loc id = g.loc id := E.loc id hid
      exact ⟨by rw [hl]; exact h5, cur, T, by rw [hl, h6]; exact h3, h4.ext E⟩
  · rcases C.back_cases h with ⟨j, o', h1, rfl, h2⟩ | ⟨hid, hp, h1⟩
    · cases o' <;> cases h2
      rw [C.loc_out]
      exact C.m'.fbox j _ h1 k u hk
    · obtain ⟨hA, y, h3, h4⟩ := C.m.fbox id cs h1 k u hk
      have hl : (g.out g' ρ ob.length).loc id = g.loc id := E.loc id hid
      rw [hl]
      exact ⟨(E.A _ _ hA).1, y, by rw [(E.A _ _ hA).2]; exact h3, h4.keep E.A⟩
  · rcases C.back_cases h with ⟨j, o', h1, rfl, h2⟩ | ⟨hid, hp, h1⟩
    · cases o' <;> cases h2
      obtain ⟨hG, h3⟩ := C.m'.iter j _ h1
      exact ⟨by rw [C.loc_out]; exact out_G hG, by rw [C.loc_out]; exact h3⟩
    · obtain ⟨hG, h3⟩ := C.m.iter id y h1
      obtain ⟨_, _, h5, h6⟩ := C.own_G hG hp
      have hl : (g.out g' ρ ob.length).loc id = g.loc id := E.loc id hid
      exact ⟨by rw [hl]; exact h5, h3.at E.A (by rw [hl, h6])⟩
  · rw [C.back_len]
    rcases C.G_cases h with ⟨j, hj, rfl⟩ | ⟨_, h1, _⟩
    · exact ⟨(C.m'.own b j hj).1, C.outI_lt (C.m'.own b j hj).2⟩
    · have := C.m.own b id h1
      exact ⟨Nat.lt_of_lt_of_le this.1 C.st.size, by omega⟩
  · refine ⟨(C.m'.imm b o hA).1, fun id h hs => ?_⟩
    rcases C.G_cases h with ⟨j, hj, rfl⟩ | ⟨h0, h1, hp⟩
    · obtain ⟨et, sz, e, xs, h2, h3⟩ := (C.m'.imm b o hA).2 j hj ((out_sub hj).symm.trans hs)
      exact ⟨et, sz, outE ob ρ j + e, xs, C.back_out h2, h3⟩
    · obtain ⟨h4, _, _, _⟩ := C.own_G h1 hp
      rcases C.st.imm b o hA with h5 | ⟨k, h5⟩ | h5
      · obtain ⟨et, sz, e, xs, h2, h3⟩ := (C.m.imm b o h5).2 id h1 ((out_sub' h0 h1 hp).symm.trans hs)
        exact ⟨et, sz, e, xs, by rw [C.back_own (lt_of_some h2) hp]; exact h2, h3⟩
      · rw [h4] at h5; cases h5
      · have := (C.m.own b id h1).1; omega
  · rcases C.back_cases h with ⟨j, o', h1, rfl, h2⟩ | ⟨hid, hp, h1⟩
    · cases o' <;> cases h2
      exact C.m'.roww j _ _ _ _ _ h1
    · exact C.m.roww id _ _ _ _ _ h1
  · cases h1 : g'.G b with
    | some j =>
      obtain ⟨j', et, sz, fz, e, xs, h2, h3⟩ := C.m'.nsub b ((out_sub h1).symm.trans hs)
      exact ⟨_, _, _, _, _, _, out_G h2, C.back_out h3⟩
    | none =>
      cases h2 : g.G b with
      | none => simp only [Gh.out, h1, h2] at hs; cases hs
      | some id =>
        cases hp : posOf id ρ with
        | some k => simp only [Gh.out, h1, h2, hp] at hs; cases hs
        | none =>
          obtain ⟨id', et, sz, fz, e, xs, h3, h4⟩ := C.m.nsub b ((out_sub' h1 h2 hp).symm.trans hs)
          rw [h2] at h3
          obtain rfl : id = id' := by simpa using h3
          exact ⟨id, et, sz, fz, e, xs, (C.own_G h2 hp).2.2.1, by rw [C.back_own (lt_of_some h4) hp]; exact h4⟩
  · rcases C.G_cases h1 with ⟨j, hj, rfl⟩ | ⟨h0, h3, hp⟩
    · rcases C.G_cases h2 with ⟨j', hj', he⟩ | ⟨h0', h4, hp'⟩
      · obtain rfl := C.outI_inj he
        exact C.m'.uniq b b' j hj hj' ((out_sub hj).symm.trans hs) ((out_sub hj').symm.trans hs')
      · exact (C.outI_not hp' (C.m.own b' _ h4).2).elim
    · rcases C.G_cases h2 with ⟨j', hj', he⟩ | ⟨h0', h4, hp'⟩
      · subst he
        exact (C.outI_not hp (C.m.own b _ h3).2).elim
      · exact C.m.uniq b b' id h3 h4 ((out_sub' h0 h3 hp).symm.trans hs) ((out_sub' h0' h4 hp').symm.trans hs')
theorem CallAt.step (C : CallAt w g ob ρ w' g' ob') : Step w g ob w' (g.out g' ρ ob.length) (back ob ρ ob') := by
  have none_in : ∀ b, g.G b = none → (g.ren (ρ.map some)).G b = none := fun b h => by simp [Gh.ren, h]
  have some_in : ∀ b k, (g.ren (ρ.map some)).G b = some k → ∃ id, g.G b = some id := fun b k h => by
    obtain ⟨i, _, hG⟩ := ren_Gof h
    exact ⟨i, hG⟩
  refine ⟨C.st.os, C.st.tape, C.st.output, C.st.size, fun b hb hG => C.st.keep b hb (none_in b hG), fun b id h => ?_, fun b o hA => ?_, C.ext, ?_⟩
  · rcases C.G_cases h with ⟨j, hj, rfl⟩ | ⟨_, h1, _⟩
    · rcases C.st.own b j hj with ⟨k, hk⟩ | hk
      · exact .inl (some_in b k hk)
      · exact .inr hk
    · exact .inl ⟨id, h1⟩
  · rcases C.st.imm b o hA with h | ⟨k, h⟩ | h
    · exact .inl h
    · exact .inr (.inl (some_in b k h))
    · exact .inr (.inr h)
  · rw [C.back_len]; omega
end
end Go.Proofs.YtaklahcbeldbhaaGreatDoor
namespace Go.Proofs.YtaklahcbeldbhaaGreatDoor
open Go.RowKit Go.Lib
section
variable {P : Program} {ty : Tys} {w0 : World} {g0 : Gh} {o0 : List Ob} {N : Nat} {Q : Ex → St → Prop} {w w' : World} {g g' : Gh} {ob ob' : List Ob}
theorem ARel.to1' {v : Value} {x : AV} (h : ARel w g ob v x) (hl : ∀ xs, x ≠ .tup xs) : ARel1 w g ob v x := by cases x <;> first | exact h | exact absurd rfl (hl _)
theorem callee_run {o : Oper} {a : Act} {w : World} {f : Operand} {args : Array Operand} {tys : Array TypeId} {h : Nat} (ho : o.op = .call { callee := .value f, args := args, argTypes := tys }) (hf : a.eval f = .func (.func h) #[] #[])
    (he : ∀ vs w, (callFunc h vs).run P w = .ok (.enter h vs) w) : (execOp a.eval o).run P w = .ok (.enter h (args.map a.eval)) w := by
  simp only [execOp, ho, resolve, hf, Deferred.ofValue, Sem.run_bind, Sem.run_pure, Result.andThen_ok, invoke]
  rw [he]
  simp
theorem argsA_ok {f : Operand} {xs vs : List AV} {ob ob' : List Ob} (h : argsA std f ob xs = some (vs, ob')) : (∀ x ∈ xs, x.live = true) ∧
    ∀ (w : World) (g : Gh) (us : List Value), Mem w g ob → ARelL w g ob us xs → ∃ g', Mem w g' ob' ∧ Ext w g ob w g' ob' ∧ ARelL w g' ob' us vs ∧ GhLe g g' ob ob' := by
  unfold argsA at h
  split at h
  · split at h
    · rename_i hl
      obtain ⟨rfl, rfl⟩ : xs = vs ∧ ob = ob' := by simpa using h
      exact ⟨fun x hx => List.all_eq_true.1 hl x hx, fun w g us M L => ⟨g, M, Ext.refl, L, GhLe.refl⟩⟩
    · cases h
  · exact ⟨each_live _ _ _ _ h, fun w g us M L => frzL _ _ g ob vs ob' M L h⟩
theorem op_call {K : St → Tree} {o : Oper} {s : St} {a : Act} {w : World} {R : Exit → Act → World → Prop} (hs : Sim w0 g0 o0 N s a w) (hd : ∀ t, o.dst = some t → t < N)
    {f : Operand} {args : Array Operand} {tys : Array TypeId} {h : Nat} (ho : o.op = .call { callee := .value f, args := args, argTypes := tys }) (hf : ev s f = .val (.func (.func h) #[] #[]))
    {vs : List AV} {ob : List Ob} (he : argsA std f s.ob (args.toList.map (ev s)) = some (vs, ob)) {ρ : List Nat} (hon : onceR (ρ.map some) = true) (hth : there ob ρ = true)
    (hq : rawF f = true ∨ tys.toList.any (ptrT ty) = true ∨ ρ.isEmpty = true) {res : AV} {ob' : List Ob} (hlen : ρ.length ≤ ob'.length) (hc : BCall P h (vs.map (inA ob ρ)) (inObs ob ρ) res ob')
    (hok : (K (St.put ⟨s.tm, back ob ρ ob'⟩ o.dst (outA ob ρ res))).ok P w0 g0 o0 N Q) : o.wp P a w (Good ty P w0 g0 o0 N Q K o.op w) R := by
  obtain ⟨g, M, hS, h0⟩ := hs.rel
  have hfr := ev_rel hS f
  rw [hf] at hfr
  have hL : ARelL w g s.ob (args.toList.map a.eval) (args.toList.map (ev s)) := by
    refine ⟨by simp, fun j v x hv hx => ?_⟩
    rw [List.getElem?_map, Option.map_eq_some_iff] at hv hx
    obtain ⟨q, hq, rfl⟩ := hv
    obtain ⟨q', hq', rfl⟩ := hx
    rw [hq] at hq'; cases hq'
    exact (ev_rel hS q).to1 ((argsA_ok he).1 _ (List.mem_map.2 ⟨q, List.mem_of_getElem? hq, rfl⟩))
  obtain ⟨g1, M1, E1, L1, G1⟩ := (argsA_ok he).2 w g _ M hL
  have hrun := callee_run (P := P) (w := w) ho hfr.valEq hc.1
  unfold Oper.wp
  rw [hrun]
  show Calls P h (args.map a.eval) w _
  have hargs : args.map a.eval = (args.toList.map a.eval).toArray := by apply Array.ext'; simp
  rw [hargs]
  refine (hc.2 w (g1.ren (ρ.map some)) _ (mem_in M1 hon hth) ⟨by simp [L1.1], fun j v x hv hx => ?_⟩).mono ?_
  · rw [List.getElem?_map, Option.map_eq_some_iff] at hx
    obtain ⟨x', hx', rfl⟩ := hx
    have h1 := L1.2 j v x' hv hx'
    have h2 := inA_rel hon hth h1.to
    cases x' with
    | agg cs => exact h2
    | tup _ => exact (show False from h1).elim
    | box i o => exact h2.to1' (by simp only [inA, inC]; split <;> simp)
    | iter i => exact h2.to1' (by simp only [inA, inC]; split <;> simp)
    | row i e => exact h2.to1' (by simp only [inA, inC]; split <;> (try split) <;> (try split) <;> simp)
    | _ => exact h2
  rintro e w' ⟨v, g2, rfl, M2, R2, S2⟩
  have C : CallAt w g1 ob ρ w' g2 ob' := ⟨hon, hth, hlen, M1, M2, S2⟩
  have hS1 : Slots w g1 ⟨s.tm, ob⟩ a := fun t => (hS t).ext E1
  have hs1 : Sim w0 g0 o0 N ⟨s.tm, ob⟩ a w := ⟨hs.defers, hs.size, g1, M1, hS1, h0.trans (Step.ghost E1 G1)⟩
  refine ⟨fun hqu => ?_, _, sim_put (s := ⟨s.tm, ob⟩) hs1 hS1 (h0.trans (Step.ghost E1 G1)) C.mem C.step hd (C.rel R2), hok⟩
  rcases hq with hq | hq | hq
  · simp [ho, quietW, hq] at hqu
  · simp [ho, quietW, hq] at hqu
  · have hr : ρ = [] := by simpa using hq
    subst hr
    exact ⟨S2.os, S2.tape, S2.output, S2.size, fun b hb => S2.keep b hb (by
      cases hx : (g1.ren (([] : List Nat).map some)).G b with
      | none => rfl
      | some j =>
        obtain ⟨i, hi, _⟩ := ren_Gof hx
        simp at hi)⟩
theorem op_pan {K : St → Tree} {o : Oper} {s : St} {a : Act} {w : World} {R : Exit → Act → World → Prop} (hs : Sim w0 g0 o0 N s a w) (hP : ∀ v s a w, s.tm = [] → Sim w0 g0 o0 N s a w → Q (.pan v) s → R (.panic [{ v := v, recovered := false }]) a w)
    {f : Operand} {args : Array Operand} {tys : Array TypeId} {h : Nat} (ho : o.op = .call { callee := .value f, args := args, argTypes := tys }) (hf : ev s f = .val (.func (.func h) #[] #[]))
    {vs : List AV} {ob : List Ob} (he : argsA std f s.ob (args.toList.map (ev s)) = some (vs, ob)) {ρ : List Nat} (hon : onceR (ρ.map some) = true) (hth : there ob ρ = true)
    {x : Value} (hc : BPan P h (vs.map (inA ob ρ)) (inObs ob ρ) x) (hq : ∀ ob', Q (.pan x) ⟨[], ob'⟩) : o.wp P a w (Good ty P w0 g0 o0 N Q K o.op w) R := by
  obtain ⟨g, M, hS, h0⟩ := hs.rel
  have hfr := ev_rel hS f
  rw [hf] at hfr
  have hL : ARelL w g s.ob (args.toList.map a.eval) (args.toList.map (ev s)) := by
    refine ⟨by simp, fun j v x hv hx => ?_⟩
    rw [List.getElem?_map, Option.map_eq_some_iff] at hv hx
    obtain ⟨q, hq, rfl⟩ := hv
    obtain ⟨q', hq', rfl⟩ := hx
    rw [hq] at hq'; cases hq'
    exact (ev_rel hS q).to1 ((argsA_ok he).1 _ (List.mem_map.2 ⟨q, List.mem_of_getElem? hq, rfl⟩))
  obtain ⟨g1, M1, E1, L1, G1⟩ := (argsA_ok he).2 w g _ M hL
  have hrun := callee_run (P := P) (w := w) ho hfr.valEq hc.1
  unfold Oper.wp
  rw [hrun]
  show Calls P h (args.map a.eval) w _
  have hargs : args.map a.eval = (args.toList.map a.eval).toArray := by apply Array.ext'; simp
  rw [hargs]
  refine (hc.2 w (g1.ren (ρ.map some)) _ (mem_in M1 hon hth) ⟨by simp [L1.1], fun j v x hv hx => ?_⟩).mono ?_
  · rw [List.getElem?_map, Option.map_eq_some_iff] at hx
    obtain ⟨x', hx', rfl⟩ := hx
    have h1 := L1.2 j v x' hv hx'
    have h2 := inA_rel hon hth h1.to
    cases x' with
    | agg cs => exact h2
    | tup _ => exact (show False from h1).elim
    | box i o => exact h2.to1' (by simp only [inA, inC]; split <;> simp)
    | iter i => exact h2.to1' (by simp only [inA, inC]; split <;> simp)
    | row i e => exact h2.to1' (by simp only [inA, inC]; split <;> (try split) <;> (try split) <;> simp)
    | _ => exact h2
  rintro e w' ⟨g2, ob', rfl, M2, S2⟩
  have hlen : ρ.length ≤ ob'.length := by have := S2.len; simpa [inObs] using this
  have C : CallAt w g1 ob ρ w' g2 ob' := ⟨hon, hth, hlen, M1, M2, S2⟩
  exact hP x ⟨[], back ob ρ ob'⟩ a w' rfl ⟨hs.defers, hs.size, _, C.mem, fun _ => trivial, (h0.trans (Step.ghost E1 G1)).trans C.step⟩ (hq _)
theorem op_sound (hT : TyOk P ty) {cs : Nat → List AV → List Ob → Option (AV × List Ob)} {K : St → Tree} {o : Oper} {s : St} {a : Act} {w : World} {R : Exit → Act → World → Prop} (hs : Sim w0 g0 o0 N s a w) (hd : ∀ t, o.dst = some t → t < N) (hP : ∀ v s a w, s.tm = [] → Sim w0 g0 o0 N s a w → Q (.pan v) s → R (.panic [{ v := v, recovered := false }]) a w)
    (hok : (aop std ty cs K o s).ok P w0 g0 o0 N Q) : o.wp P a w (Good ty P w0 g0 o0 N Q K o.op w) R := by
  have still : ∀ {s : St}, Sim w0 g0 o0 N s a w → ∀ {q : Option DP} {v : AV}, aval std ty s o.op = some (q, v) → (∀ r, q = some r → r) → (K (St.put s o.dst v)).ok P w0 g0 o0 N Q → o.wp P a w (Good ty P w0 g0 o0 N Q K o.op w) R :=
    fun hs _ _ h hq hk => op_still hs hd (fun g M hS => aval_sound hT hS M h hq) hk
  -- what stands behind 'aval'
  have rest0 : ∀ {s : St}, Sim w0 g0 o0 N s a w → (aopRest std ty K o s o.op).ok P w0 g0 o0 N Q → o.wp P a w (Good ty P w0 g0 o0 N Q K o.op w) R := by
    intro s hs h
    unfold aopRest at h
    split at h
    · rename_i v hv
      exact still hs hv (fun r h => by cases h) h
    · rename_i q v hv
      exact still hs hv (fun r hr => by cases hr; exact h.1) h.2
    · split at h
      · rename_i src dst x ho
        split at h
        · rename_i b hb
          split at h
          · rename_i hk
            exact op_bytes hT hs hd ho hb hk.1 hk.2.1 hk.2.2 h.1 h.2
          · exact h.elim
        · rename_i id ep hx
          split at h
          · rename_i et sz e xs hob
            split at h
            · rename_i hk
              obtain ⟨rfl, rfl, rfl, hk1, hk2⟩ := hk
              exact op_mark hT hs hd ho hx hob hk1 hk2 h.1 h.2
            · exact h.elim
          · exact h.elim
        · exact h.elim
      · exact h.elim
  have rest : (aopRest std ty K o s o.op).ok P w0 g0 o0 N Q → o.wp P a w (Good ty P w0 g0 o0 N Q K o.op w) R := rest0 hs
  obtain ⟨op, ho⟩ : ∃ op, o.op = op := ⟨_, rfl⟩
  cases op with
  | binOp op T x y T' =>
    rcases nilq_ok (w := w) (a := a) hT ho hok with h | ⟨z, h1, h2⟩
    · exact rest h
    · exact op_still hs hd (fun g M hS => h2 g _ hS) h1
  | assign x =>
    simp only [aop, ho] at hok
    exact rest0 (commit_sim x hs) (by rw [ho]; exact hok)
  | slice T x lo hi m =>
    cases lo with
    | none => exact rest (by rw [ho]; simpa only [aop, ho] using hok)
    | some l =>
      simp only [aop, ho] at hok
      exact rest0 (thaw_sim x hs) (by rw [ho]; exact hok)
  | alloc T =>
    simp only [aop, ho] at hok
    split at hok
    · rename_i hk; exact op_alloc hT hs hd ho hk hok
    · exact hok.elim
  | box T x =>
    simp only [aop, ho] at hok
    split at hok
    · rename_i hk; exact op_box hs hd ho hk hok
    · exact hok.elim
  | store T x y =>
    simp only [aop, ho] at hok
    have hs := commit_sim y hs
    generalize commit std s y = s1 at hok hs
    unfold aopStore at hok
    split at hok
    · rename_i id off hx
      split at hok
      · rename_i c hb
        split at hok
        · rename_i hk
          exact op_store hT hs hd ho hx hb hk.1 hk.2.1 hk.2.2.1 hk.2.2.2 hok
        · exact hok.elim
      · exact hok.elim
    · rename_i id ep i off hx
      split at hok
      · rename_i et sz e xs hb
        split at hok
        · rename_i hk
          exact op_storeR hT hs hd ho hx hb hk.1 hk.2.1 hk.2.2.1 hk.2.2.2.1 hk.2.2.2.2.1 hk.2.2.2.2.2.1 hk.2.2.2.2.2.2 hok
        · exact hok.elim
      · exact hok.elim
    · exact hok.elim
  | buildSlice T len parts =>
    simp only [aop, ho] at hok
    split at hok
    · rename_i xs ob he
      split at hok
      · rename_i hk
        exact op_buildSlice hT hs hd ho he hk.1 hk.2.1 hk.2.2.1 hk.2.2.2.1 hk.2.2.2.2.1 hk.2.2.2.2.2.1 hk.2.2.2.2.2.2 hok
      · exact hok.elim
    · exact hok.elim
  | makeMap T r =>
    cases r with
    | none => exact op_makeMap hs hd ho (by simpa only [aop, ho] using hok)
    | some _ => simp [aop, ho, aopRest, aval, Tree.ok] at hok
  | lookup T x i c => exact op_look hT hs hd ho (by simpa only [aop, ho] using hok)
  | mapUpdate T m i x => exact op_mapPut hT hs hd ho (by simpa only [aop, ho] using hok)
  | range T x =>
    simp only [aop, ho] at hok
    split at hok
    · rename_i b hb
      split at hok
      · rename_i hk; exact op_range hT hs hd ho hb hk hok
      · exact hok.elim
    · exact hok.elim
  | next it b =>
    cases b with
    | false => simp [aop, ho, aopRest, aval, Tree.ok] at hok
    | true =>
      simp only [aop, ho] at hok
      split at hok
      · rename_i id hi
        split at hok
        · rename_i b pos hob
          exact op_next hs hd ho hi hob hok.1 hok.2
        · exact hok.elim
      · exact hok.elim
  | call c =>
    obtain ⟨callee, args, tys⟩ := c
    cases callee with
    | builtin b =>
      cases b with
      | append =>
        simp only [aop, ho] at hok
        split at hok
        · rename_i x y T U ha ht
          split at hok
          · rename_i sz news hsrc
            split at hok
            · rename_i hel
              obtain ⟨hsubk, hel⟩ := hel
              have hpos : 0 < sz := by obtain ⟨e, _, _, _, _, h⟩ := el_facts hT hel; exact h
              split at hok
              · rename_i hx
                have hlen : s.ob.length = s.ob.length := rfl
                have hset : (s.ob ++ [Ob.row (tyLook T ty).elem sz false 0 []]).set s.ob.length (.row (tyLook T ty).elem sz false (0 + 1) (std.app [] news)) = s.ob ++ [.row (tyLook T ty).elem sz false 1 (std.app [] news)] := by
                  rw [List.set_append_right _ _ (Nat.le_refl _), Nat.sub_self]; rfl
                refine op_append_row hT hs hd ho ha ht (ob := s.ob ++ [.row (tyLook T ty).elem sz false 0 []]) (fun g M => ⟨M.addRow hpos, Ext.addRow _, Step.addRow _⟩) (id := s.ob.length) get_new (xs' := []) (fun g M hS => ?_) (fun h => by cases h) hel rfl hsrc hsubk hok.1 ?_
                · have hxr := ev_rel hS x
                  rw [hx] at hxr
                  rw [hxr.valEq]
                  refine ⟨[], World.ownsRow_nil _ _ _ _, ?_, Alike.nil, ?_, ?_, ?_⟩
                  · intro b h; cases h
                  · intro x h; cases h
                  · intro b h; cases h
                  · intro _ j y h; simp at h
                · rw [hset]; exact hok.2
              · rename_i id ep hx
                split at hok
                · rename_i et sz' fz e xs hob
                  split at hok
                  · rename_i hk
                    obtain ⟨rfl, rfl, rfl⟩ := hk
                    refine op_append_row hT hs hd ho ha ht (ob := s.ob) (fun g M => ⟨M, Ext.refl, Step.refl⟩) hob (fun g M hS => ?_) (fun _ => rfl) hel rfl hsrc hsubk hok.1 hok.2
                    have hxr := ev_rel hS x
                    rw [hx] at hxr
                    obtain ⟨_, et, sz, fz, e, xs, h1, h2, h3⟩ := hxr
                    rw [hob] at h1
                    cases h1
                    exact h3 rfl
                  · exact hok.elim
                · exact hok.elim
              · rename_i id ep k hx
                split at hok
                · rename_i et sz' e xs hob
                  split at hok
                  · rename_i hk
                    obtain ⟨rfl, rfl, rfl⟩ := hk
                    refine op_append_row hT hs hd ho ha ht (ob := s.ob) (fun g M => ⟨M, Ext.refl, Step.refl⟩) hob (xs' := std.cut xs 0 k) (fun g M hS => ?_) (fun h => by cases h) hel rfl hsrc hsubk hok.1 hok.2
                    have hxr := ev_rel hS x
                    rw [hx] at hxr
                    obtain ⟨_, et, sz, fz, e, xs, h1, h2, h3⟩ := hxr
                    rw [hob] at h1
                    cases h1
                    have e : std.cut xs 0 k = xs.take k.toNat := by simp [std]
                    rw [e]
                    exact (h3 rfl).2.2
                  · exact hok.elim
                · exact hok.elim
              · exact hok.elim
            · exact hok.elim
          · exact hok.elim
        · exact hok.elim
      | _ => exact rest (by rw [ho]; simpa only [aop, ho] using hok)
    | invoke _ _ => exact rest (by rw [ho]; simpa only [aop, ho] using hok)
    | value f =>
      simp only [aop, ho] at hok
      split at hok
      · rename_i h ca cb hf
        split at hok
        · rename_i hab
          obtain rfl : ca = #[] := Array.eq_empty_of_size_eq_zero hab.1
          obtain rfl : cb = #[] := Array.eq_empty_of_size_eq_zero hab.2
          split at hok
          · rename_i vs ob he
            split at hok
            · rename_i hk
              split at hok
              · exact op_pan hs hP ho hf he hk.1 hk.2.1 hok.1 hok.2
              · rename_i v c res ob' hcs
                obtain ⟨h1, h2⟩ := hok
                cases c with
                | true =>
                  have hok := h1 rfl
                  split at hok
                  · rename_i hlen
                    exact op_call hs hd ho hf he hk.1 hk.2.1 hk.2.2 hlen hok.1 hok.2
                  · exact hok.elim
                | false => exact op_pan hs hP ho hf he hk.1 hk.2.1 (h2 rfl).1 (h2 rfl).2
              · rename_i res ob' _ _ hcs
                split at hok
                · rename_i hlen
                  exact op_call hs hd ho hf he hk.1 hk.2.1 hk.2.2 hlen hok.1 hok.2
                · exact hok.elim
              · exact hok.elim
            · exact hok.elim
          · exact hok.elim
        · exact hok.elim
      · exact hok.elim
  | _ => exact rest (by rw [ho]; simpa only [aop, ho] using hok)
end
end Go.Proofs.YtaklahcbeldbhaaGreatDoor
