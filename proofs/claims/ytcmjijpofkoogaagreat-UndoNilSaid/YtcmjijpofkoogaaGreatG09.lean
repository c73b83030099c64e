/- Lemmas, conditions told -/
import Derived.Test.YtcmjijpofkoogaaGreatG07
import Derived.Test.YtcmjijpofkoogaaGreatG08
import Derived.Laws.MakeOwn
set_option linter.unusedSimpArgs false
set_option linter.unusedVariables false
namespace Go.Proofs.YtcmjijpofkoogaaGreat
open Go.RowKit Go.Lib
theorem posOf_get {i : Nat} : ∀ {ρ : List Nat} {j : Nat}, posOf i ρ = some j → ρ[j]? = some i
  | [], j, h => by cases h
  | k :: r, j, h => by
    simp only [posOf] at h
    split at h
    · rename_i e
      cases h; subst e; rfl
    · obtain ⟨j', h1, rfl⟩ := Option.map_eq_some_iff.1 h
      simpa using posOf_get h1
theorem posOf_some {i : Nat} : ∀ {ρ : List Nat} {j : Nat}, ρ[j]? = some i → ∃ j', posOf i ρ = some j'
  | [], j, h => by simp at h
  | k :: r, j, h => by
    simp only [posOf]
    split
    · exact ⟨0, rfl⟩
    · rename_i hne
      cases j with
      | zero => exact absurd (by simpa using h.symm) hne
      | succ j =>
        obtain ⟨j', h1⟩ := posOf_some (ρ := r) (j := j) (by simpa using h)
        exact ⟨j' + 1, by rw [h1]; rfl⟩
section
variable {ob : List Ob} {ρ : List Nat}
theorem map_get {j i : Nat} (h : ρ[j]? = some i) : (ρ.map some)[j]? = some (some i) := by rw [List.getElem?_map, h]; rfl
theorem get_map {j i : Nat} (h : (ρ.map some)[j]? = some (some i)) : ρ[j]? = some i := by
  rw [List.getElem?_map, Option.map_eq_some_iff] at h
  obtain ⟨k, h1, h2⟩ := h
  cases h2; exact h1
theorem posOf_once (h : onceR (ρ.map some) = true) {i j : Nat} (hj : ρ[j]? = some i) : posOf i ρ = some j := by
  obtain ⟨j', hj'⟩ := posOf_some hj
  have h1 := onceR_get h (map_get hj)
  have h2 := onceR_get h (map_get (posOf_get hj'))
  rw [h1] at h2
  cases h2; exact hj'
abbrev inObs (ob : List Ob) (ρ : List Nat) : List Ob := ρ.map fun i => inO ob ρ (ob.getD i .gone)
theorem inObs_get {i j : Nat} (hj : ρ[j]? = some i) : (inObs ob ρ)[j]? = some (inO ob ρ (ob.getD i .gone)) := by
  simp only [inObs, List.getElem?_map, hj, Option.map_some]
theorem getD_of {i : Nat} {o : Ob} (h : ob[i]? = some o) : ob.getD i .gone = o := by rw [List.getD_eq_getElem?_getD, h]; rfl
theorem ren0_in (x : AV) : ∃ l, ren0 ob (inObs ob ρ) (ρ.map some) x (inC ob ρ x) = some l ∧ AllEq l := by
  have dead : ∃ l, ren0 ob (inObs ob ρ) (ρ.map some) x .dead = some l ∧ AllEq l := ⟨[], rfl, trivial⟩
  cases x with
  | val v => cases v <;> exact ⟨_, rfl, rfl, trivial⟩
  | slc sz xs => exact ⟨_, rfl, rfl, trivial⟩
  | ref cs => exact ⟨_, rfl, rfl, trivial⟩
  | opt y => exact ⟨_, rfl, rfl, trivial⟩
  | kb b => exact ⟨_, rfl, rfl, trivial⟩
  | box i o =>
    simp only [inC]
    split
    · rename_i j hj
      exact ⟨[(.box i o, .box i o)], by simp only [ren0, map_get (posOf_get hj)], rfl, trivial⟩
    · exact dead
  | iter i =>
    simp only [inC]
    split
    · rename_i j hj
      exact ⟨[(.iter i, .iter i)], by simp only [ren0, map_get (posOf_get hj)], rfl, trivial⟩
    · exact dead
  | clo f i o t =>
    simp only [inC]
    split
    · rename_i j hj
      exact ⟨[(.clo f i o t, .clo f i o t)], by simp only [ren0, map_get (posOf_get hj)], rfl, trivial⟩
    · exact dead
  | row i e =>
    simp only [inC]
    split
    · rename_i j hj
      split
      · rename_i et sz fz e2 xs hob
        split
        · rename_i he
          subst he
          refine ⟨[(.row i e2, .row i e2)], ?_, rfl, trivial⟩
          have h1 := inObs_get (ob := ob) (posOf_get hj)
          rw [getD_of hob] at h1
          simp only [ren0, h1, inO, if_true, map_get (posOf_get hj), hob]
        · exact dead
      · exact dead
    · exact dead
  | _ => exact dead
theorem renL_in : ∀ (xs : List AV), ∃ l, renL ob (inObs ob ρ) (ρ.map some) xs (xs.map (inC ob ρ)) = some l ∧ AllEq l
  | [] => ⟨[], rfl, trivial⟩
  | x :: r => by
    obtain ⟨l1, h1, h2⟩ := ren0_in (ob := ob) (ρ := ρ) x
    obtain ⟨l2, h3, h4⟩ := renL_in r
    exact ⟨l1 ++ l2, by simp only [List.map_cons, renL, h1, h3, both], allEq_append.2 ⟨h2, h4⟩⟩
theorem ren1_in (x : AV) : ∃ l, ren1 ob (inObs ob ρ) (ρ.map some) x (inA ob ρ x) = some l ∧ AllEq l := by
  cases x with
  | agg cs => exact renL_in cs
  | val v => exact ren0_in (ob := ob) (ρ := ρ) (.val v)
  | slc sz xs => exact ren0_in (ob := ob) (ρ := ρ) (.slc sz xs)
  | ref cs => exact ren0_in (ob := ob) (ρ := ρ) (.ref cs)
  | opt y => exact ren0_in (ob := ob) (ρ := ρ) (.opt y)
  | kb b => exact ren0_in (ob := ob) (ρ := ρ) (.kb b)
  | box i o =>
    obtain ⟨l, h1, h2⟩ := ren0_in (ob := ob) (ρ := ρ) (.box i o)
    refine ⟨l, ?_, h2⟩
    show ren1 _ _ _ _ (inC ob ρ (.box i o)) = _
    revert h1
    simp only [inC]
    split <;> exact id
  | iter i =>
    obtain ⟨l, h1, h2⟩ := ren0_in (ob := ob) (ρ := ρ) (.iter i)
    refine ⟨l, ?_, h2⟩
    show ren1 _ _ _ _ (inC ob ρ (.iter i)) = _
    revert h1
    simp only [inC]
    split <;> exact id
  | clo f i o t =>
    obtain ⟨l, h1, h2⟩ := ren0_in (ob := ob) (ρ := ρ) (.clo f i o t)
    refine ⟨l, ?_, h2⟩
    show ren1 _ _ _ _ (inC ob ρ (.clo f i o t)) = _
    revert h1
    simp only [inC]
    split <;> exact id
  | row i e =>
    obtain ⟨l, h1, h2⟩ := ren0_in (ob := ob) (ρ := ρ) (.row i e)
    refine ⟨l, ?_, h2⟩
    show ren1 _ _ _ _ (inC ob ρ (.row i e)) = _
    revert h1
    simp only [inC]
    split <;> (try split) <;> (try split) <;> exact id
  | _ => exact ⟨[], rfl, trivial⟩
theorem fits_in (ht : there ob ρ = true) : Fits ob (inObs ob ρ) (ρ.map some) := by
  refine ⟨by simp, fun j i o hi ho => ?_⟩
  rw [List.getElem?_map, Option.map_eq_some_iff] at hi
  obtain ⟨k, hk, rfl⟩ := hi
  rw [inObs_get hk] at ho
  cases ho
  have h := List.all_eq_true.1 ht k (List.mem_of_getElem? hk)
  cases hob : ob[k]? with
  | none => rw [hob] at h; cases h
  | some q =>
    rw [getD_of hob]
    cases q with
    | gone => rw [hob] at h; cases h
    | box cs => simp only [inO, renOb, hob]; exact renL_in cs
    | fbox cs => exact ⟨[(.slc 0 cs, .slc 0 cs)], by simp only [inO, renOb, hob], rfl, trivial⟩
    | row et sz fz e xs => exact ⟨[(.slc 0 xs, .slc 0 xs)], by simp only [inO, renOb, hob]; simp, rfl, trivial⟩
    | iter y =>
      cases y with
      | str s p => exact ⟨[(.val (.string s), .val (.string s)), (.box 0 p, .box 0 p)], by simp only [inO, renOb, hob], rfl, rfl, trivial⟩
      | map es => exact ⟨[(.tup (flatE es), .tup (flatE es))], by simp only [inO, renOb, hob], rfl, trivial⟩
      | mit m es sn c => rw [hob] at h; cases h
theorem inA_rel {w : World} {g : Gh} (ho : onceR (ρ.map some) = true) (ht : there ob ρ = true) {v : Value} {x : AV} (h : ARel w g ob v x) : ARel w (g.ren (ρ.map some)) (inObs ob ρ) v (inA ob ρ x) := by
  obtain ⟨l, h1, h2⟩ := ren1_in (ob := ob) (ρ := ρ) x
  exact ren1_rel (fits_in ht) ho h h1 h2
theorem mem_in {w : World} {g : Gh} (M : Mem w g ob) (ho : onceR (ρ.map some) = true) (ht : there ob ρ = true) : Mem w (g.ren (ρ.map some)) (inObs ob ρ) := M.ren (fits_in ht) ho
end
def Gh.out (g g' : Gh) (ρ : List Nat) (n : Nat) : Gh where
  A := g'.A
  G b := match g'.G b with
    | some j => some (outI ρ n j)
    | none => match g.G b with
      | some id => match posOf id ρ with
        | some _ => none
        | none => some id
      | none => none
  loc id := match posOf id ρ with
    | some j => g'.loc j
    | none => if id < n then g.loc id else g'.loc (ρ.length + (id - n))
  sub b := match g'.G b with
    | some _ => g'.sub b
    | none => match g.G b with
      | some id => match posOf id ρ with
        | some _ => false
        | none => g.sub b
      | none => false
section
variable {w w' : World} {g g' : Gh} {ob ob' : List Ob} {ρ : List Nat}
structure CallAt (w : World) (g : Gh) (ob : List Ob) (ρ : List Nat) (w' : World) (g' : Gh) (ob' : List Ob) : Prop where
  once : onceR (ρ.map some) = true
  there : there ob ρ = true
  len : ρ.length ≤ ob'.length
  m : Mem w g ob
  m' : Mem w' g' ob'
  st : Step w (g.ren (ρ.map some)) (inObs ob ρ) w' g' ob'
theorem CallAt.lt (C : CallAt w g ob ρ w' g' ob') {i j : Nat} (hj : ρ[j]? = some i) : i < ob.length := by
  have h := List.all_eq_true.1 C.there i (List.mem_of_getElem? hj)
  cases hob : ob[i]? with
  | none => rw [hob] at h; cases h
  | some _ => exact lt_of_some hob
theorem CallAt.outI_lt (C : CallAt w g ob ρ w' g' ob') {j : Nat} (hj : j < ob'.length) : outI ρ ob.length j < ob.length + (ob'.length - ρ.length) := by
  unfold outI
  split
  · rename_i h
    have h1 : ρ[j]? = some (ρ.getD j 0) := by rw [List.getD_eq_getElem?_getD, List.getElem?_eq_getElem h]; rfl
    have := C.lt h1
    omega
  · have := C.len; omega
theorem CallAt.outI_at (C : CallAt w g ob ρ w' g' ob') (j : Nat) : (j < ρ.length ∧ ρ[j]? = some (outI ρ ob.length j) ∧ outI ρ ob.length j < ob.length) ∨ (ρ.length ≤ j ∧ outI ρ ob.length j = ob.length + (j - ρ.length)) := by
  unfold outI
  split
  · rename_i h
    have h1 : ρ[j]? = some (ρ.getD j 0) := by rw [List.getD_eq_getElem?_getD, List.getElem?_eq_getElem h]; rfl
    exact .inl ⟨h, h1, C.lt h1⟩
  · exact .inr ⟨by omega, rfl⟩
theorem CallAt.outI_inj (C : CallAt w g ob ρ w' g' ob') {j j' : Nat} (h : outI ρ ob.length j = outI ρ ob.length j') : j = j' := by
  rcases C.outI_at j with ⟨h1, h2, h3⟩ | ⟨h1, h2⟩ <;> rcases C.outI_at j' with ⟨h4, h5, h6⟩ | ⟨h4, h5⟩
  · rw [h] at h2
    have := (posOf_once C.once h2).symm.trans (posOf_once C.once h5)
    exact Option.some.inj this
  · omega
  · omega
  · omega
theorem CallAt.outI_not (C : CallAt w g ob ρ w' g' ob') {j : Nat} (hp : posOf (outI ρ ob.length j) ρ = none) (hl : outI ρ ob.length j < ob.length) : False := by
  rcases C.outI_at j with ⟨h1, h2, h3⟩ | ⟨h1, h2⟩
  · rw [posOf_once C.once h2] at hp; cases hp
  · omega
theorem CallAt.back_len (C : CallAt w g ob ρ w' g' ob') : (back ob ρ ob').length = ob.length + (ob'.length - ρ.length) := by simp [back]
theorem CallAt.back_out (C : CallAt w g ob ρ w' g' ob') {j : Nat} {o : Ob} (hj : ob'[j]? = some o) : (back ob ρ ob')[outI ρ ob.length j]? = some (outO ob ρ j o) := by
  have hl := lt_of_some hj
  have h1 := C.outI_lt hl
  simp only [back, List.getElem?_map, List.getElem?_range h1, Option.map_some]
  unfold outI
  by_cases h : j < ρ.length
  · rw [if_pos h]
    have h2 : ρ[j]? = some (ρ.getD j 0) := by rw [List.getD_eq_getElem?_getD, List.getElem?_eq_getElem h]; rfl
    simp only [posOf_once C.once h2, getD_of hj]
  · rw [if_neg h]
    have h2 : posOf (ob.length + (j - ρ.length)) ρ = none := by
      cases hp : posOf (ob.length + (j - ρ.length)) ρ with
      | none => rfl
      | some k => have := C.lt (posOf_get hp); omega
    have h3 : ¬ (ob.length + (j - ρ.length) < ob.length) := by omega
    have h4 : ρ.length + (ob.length + (j - ρ.length) - ob.length) = j := by omega
    simp only [h2, h3, if_false, h4, getD_of hj]
theorem CallAt.back_own (C : CallAt w g ob ρ w' g' ob') {id : Nat} (hid : id < ob.length) (hp : posOf id ρ = none) : (back ob ρ ob')[id]? = ob[id]? := by
  have h1 : id < ob.length + (ob'.length - ρ.length) := by omega
  simp only [back, List.getElem?_map, List.getElem?_range h1, Option.map_some, hp, hid, if_true]
  rw [List.getElem?_eq_getElem hid, List.getD_eq_getElem?_getD, List.getElem?_eq_getElem hid]; rfl
theorem CallAt.back_cases (C : CallAt w g ob ρ w' g' ob') {id : Nat} {o : Ob} (h : (back ob ρ ob')[id]? = some o) :
    (∃ j o', ob'[j]? = some o' ∧ id = outI ρ ob.length j ∧ o = outO ob ρ j o') ∨ (id < ob.length ∧ posOf id ρ = none ∧ ob[id]? = some o) := by
  have hlt := lt_of_some h
  rw [C.back_len] at hlt
  cases hp : posOf id ρ with
  | some j =>
    left
    have hj := posOf_get hp
    have hl : j < ob'.length := Nat.lt_of_lt_of_le (lt_of_some hj) C.len
    have e : outI ρ ob.length j = id := by
      unfold outI
      rw [if_pos (lt_of_some hj), List.getD_eq_getElem?_getD, hj]; rfl
    refine ⟨j, _, List.getElem?_eq_getElem hl, e.symm, ?_⟩
    have h2 := C.back_out (List.getElem?_eq_getElem hl)
    rw [e, h] at h2
    exact Option.some.inj h2
  | none =>
    by_cases hid : id < ob.length
    · rw [C.back_own hid hp] at h
      exact .inr ⟨hid, rfl, h⟩
    · left
      have hl : ρ.length + (id - ob.length) < ob'.length := by have := C.len; omega
      have e : outI ρ ob.length (ρ.length + (id - ob.length)) = id := by
        unfold outI
        rw [if_neg (by omega)]; omega
      refine ⟨_, _, List.getElem?_eq_getElem hl, e.symm, ?_⟩
      have h2 := C.back_out (List.getElem?_eq_getElem hl)
      rw [e, h] at h2
      exact Option.some.inj h2
theorem CallAt.loc_out (C : CallAt w g ob ρ w' g' ob') {j : Nat} : (g.out g' ρ ob.length).loc (outI ρ ob.length j) = g'.loc j := by
  unfold outI
  by_cases h : j < ρ.length
  · rw [if_pos h]
    have h2 : ρ[j]? = some (ρ.getD j 0) := by rw [List.getD_eq_getElem?_getD, List.getElem?_eq_getElem h]; rfl
    simp only [Gh.out, posOf_once C.once h2]
  · rw [if_neg h]
    have h2 : posOf (ob.length + (j - ρ.length)) ρ = none := by
      cases hp : posOf (ob.length + (j - ρ.length)) ρ with
      | none => rfl
      | some k => have := C.lt (posOf_get hp); omega
    have h3 : ¬ (ob.length + (j - ρ.length) < ob.length) := by omega
    have h4 : ρ.length + (ob.length + (j - ρ.length) - ob.length) = j := by omega
    simp only [Gh.out, h2, h3, if_false, h4]
theorem out_sub {j b : Nat} (h : g'.G b = some j) : (g.out g' ρ ob.length).sub b = g'.sub b := by simp only [Gh.out, h]
theorem out_sub' {id b : Nat} (h : g'.G b = none) (h1 : g.G b = some id) (hp : posOf id ρ = none) : (g.out g' ρ ob.length).sub b = g.sub b := by simp only [Gh.out, h, h1, hp]
theorem out_G {j b : Nat} (h : g'.G b = some j) : (g.out g' ρ ob.length).G b = some (outI ρ ob.length j) := by simp only [Gh.out, h]
theorem CallAt.own_G (C : CallAt w g ob ρ w' g' ob') {b id : Nat} (h : g.G b = some id) (hp : posOf id ρ = none) :
    (g.ren (ρ.map some)).G b = none ∧ g'.G b = none ∧ (g.out g' ρ ob.length).G b = some id ∧ w'.heap[b]? = w.heap[b]? := by
  have h1 : (g.ren (ρ.map some)).G b = none := by
    cases hr : (g.ren (ρ.map some)).G b with
    | none => rfl
    | some j =>
      obtain ⟨i, hi, hG⟩ := ren_Gof hr
      rw [h] at hG; cases hG
      obtain ⟨j', hj'⟩ := posOf_some (get_map hi)
      rw [hp] at hj'; cases hj'
  have hb := (C.m.own b id h).1
  have h2 : g'.G b = none := by
    cases hr : g'.G b with
    | none => rfl
    | some j =>
      rcases C.st.own b j hr with ⟨k, hk⟩ | hk
      · rw [h1] at hk; cases hk
      · omega
  exact ⟨h1, h2, by simp only [Gh.out, h2, h, hp], C.st.keep b hb h1⟩
theorem CallAt.G_cases (C : CallAt w g ob ρ w' g' ob') {b id : Nat} (h : (g.out g' ρ ob.length).G b = some id) :
    (∃ j, g'.G b = some j ∧ id = outI ρ ob.length j) ∨ (g'.G b = none ∧ g.G b = some id ∧ posOf id ρ = none) := by
  simp only [Gh.out] at h
  cases h1 : g'.G b with
  | some j => rw [h1] at h; exact .inl ⟨j, rfl, (Option.some.inj h).symm⟩
  | none =>
    rw [h1] at h
    cases h2 : g.G b with
    | none => rw [h2] at h; cases h
    | some k =>
      rw [h2] at h
      cases h3 : posOf k ρ with
      | some _ => simp only [h3] at h; cases h
      | none => simp only [h3] at h; cases h; exact .inr ⟨rfl, rfl, h3⟩
theorem outO_box {j : Nat} {o : Ob} (h : isBox (some o)) : isBox (some (outO ob ρ j o)) := by cases o <;> first | exact h.elim | trivial
theorem outO_it {k : Bool} {j : Nat} {o : Ob} (h : isIt k (some o)) : isIt k (some (outO ob ρ j o)) := by rcases o with _ | _ | _ | (_ | _ | _) | _ <;> first | exact h.elim | exact h
theorem CallAt.isb_out (C : CallAt w g ob ρ w' g' ob') {j : Nat} (h : isBox ob'[j]?) : isBox (back ob ρ ob')[outI ρ ob.length j]? := by
  have hl := isBox_lt h
  rw [List.getElem?_eq_getElem hl] at h
  rw [C.back_out (List.getElem?_eq_getElem hl)]
  exact outO_box h
theorem CallAt.isi_out (C : CallAt w g ob ρ w' g' ob') {k : Bool} {j : Nat} (h : isIt k ob'[j]?) : isIt k (back ob ρ ob')[outI ρ ob.length j]? := by
  have hl := isIt_lt h
  rw [List.getElem?_eq_getElem hl] at h
  rw [C.back_out (List.getElem?_eq_getElem hl)]
  exact outO_it h
theorem outI_of {i j : Nat} (hj : ρ[j]? = some i) (n : Nat) : outI ρ n j = i := by
  unfold outI
  rw [if_pos (lt_of_some hj), List.getD_eq_getElem?_getD, hj]; rfl
theorem CallAt.ext (C : CallAt w g ob ρ w' g' ob') : Ext w g ob w' (g.out g' ρ ob.length) (back ob ρ ob') := by
  refine ⟨C.st.ext.A, fun id hid => ?_, fun id hb => ?_, fun id hb => ?_, fun id et sz fz e xs hr => ?_, fun b id hG hs => ?_⟩
  rotate_right
  · obtain ⟨et, sz, fz, fz', e, xs, xs', h1, h2⟩ := hs
    cases hp : posOf id ρ with
    | none =>
      obtain ⟨h3, h4, h5, h6⟩ := C.own_G hG hp
      refine ⟨out_sub' h4 hG hp, fun _ o hA => ?_⟩
      rcases C.st.imm b o hA with h7 | ⟨k, h7⟩ | h7
      · exact h7
      · rw [h3] at h7; cases h7
      · have := (C.m.own b id hG).1; omega
    | some j =>
      have hj := posOf_get hp
      have h3 : (inObs ob ρ)[j]? = some (.row et sz fz 0 xs) := by rw [inObs_get hj, getD_of h1]; rfl
      obtain ⟨fz2, e2, xs2, h4, _, h5⟩ := C.st.ext.row j _ _ _ _ _ h3
      have h6 := C.back_out h4
      rw [outI_of hj, h2] at h6
      have h7 : outE ob ρ j = e := by simp only [outE, hj, epOf, h1]
      simp only [outO, h7] at h6
      have h8 : e2 = 0 := by
        have h9 : e = e + e2 := by injection h6 with h6; injection h6
        omega
      subst h8
      have hG2 := ren_G (g := g) C.once (map_get hj) hG
      obtain ⟨h9, h10⟩ := C.st.ext.sub b j hG2 ⟨_, _, _, _, _, _, _, h3, h4⟩
      have hs2 := ren_sub (g := g) C.once (map_get hj) hG
      refine ⟨(out_sub ((h5 rfl).G hG2)).trans (h9.trans hs2), fun hsb o hA => h10 (hs2.trans hsb) o hA⟩
  · cases hp : posOf id ρ with
    | none => simp only [Gh.out, hp, hid, if_true]
    | some j =>
      have hj := posOf_get hp
      simp only [Gh.out, hp]
      rw [C.st.ext.loc j (by simpa using lt_of_some hj), ren_loc (map_get hj)]
  · cases hp : posOf id ρ with
    | none => rw [C.back_own (isBox_lt hb) hp]; exact hb
    | some j =>
      have hj := posOf_get hp
      have := C.isb_out (C.st.ext.isb j ((fits_in C.there).isB (map_get hj) hb))
      rw [outI_of hj] at this; exact this
  · cases hp : posOf id ρ with
    | none => rw [C.back_own (isIt_lt hb) hp]; exact hb
    | some j =>
      have hj := posOf_get hp
      have := C.isi_out (C.st.ext.isi j ((fits_in C.there).isI (map_get hj) hb))
      rw [outI_of hj] at this; exact this
  · cases hp : posOf id ρ with
    | none =>
      refine ⟨fz, e, xs, by rw [C.back_own (lt_of_some hr) hp]; exact hr, Nat.le_refl _, fun _ => .inl ⟨rfl, fun b hb => ?_⟩⟩
      obtain ⟨_, _, h3, h4⟩ := C.own_G hb hp
      exact ⟨h3, h4⟩
    | some j =>
      have hj := posOf_get hp
      have h1 : (inObs ob ρ)[j]? = some (.row et sz fz 0 xs) := by rw [inObs_get hj, getD_of hr]; rfl
      obtain ⟨fz', e', xs', h2, h3, h4⟩ := C.st.ext.row j _ _ _ _ _ h1
      have h5 := C.back_out h2
      rw [outI_of hj] at h5
      have h6 : outE ob ρ j = e := by simp only [outE, hj, epOf, hr]
      refine ⟨fz', e + e', xs', by rw [h5, ← h6]; rfl, by omega, fun he => ?_⟩
      refine (h4 (by omega)).turn (fun b hb => ⟨ren_G C.once (map_get hj) hb, ren_sub C.once (map_get hj) hb⟩) (fun b _ h9 => ?_) rfl
      rw [out_G h9, outI_of hj]
theorem CallAt.row_out (C : CallAt w g ob ρ w' g' ob') {j et sz : Nat} {v : Value} {xs : List AV} (h : RowV w' g' j et sz v xs) : RowV w' (g.out g' ρ ob.length) (outI ρ ob.length j) et sz v xs := by
  obtain ⟨ys, h1, h2, h3, h4, h5⟩ := h
  exact ⟨ys, h1, fun b hb => out_G (h2 b hb), h3, h4, h5.ext h2 fun b hb => ⟨out_G hb, out_sub hb, fun _ => ⟨rfl, fun _ h => h⟩⟩⟩
theorem CallAt.rel0 (C : CallAt w g ob ρ w' g' ob') {v : Value} {x : AV} (h : ARel0 w' g' ob' v x) : ARel0 w' (g.out g' ρ ob.length) (back ob ρ ob') v (outC ob ρ x) := by
  cases x with
  | box j o => exact ⟨by rw [C.loc_out]; exact h.1, C.isb_out h.2⟩
  | iter j => obtain ⟨k, h1, h2⟩ := h; exact ⟨k, by rw [C.loc_out]; exact h1, C.isi_out h2⟩
  | clo f j o t => exact ⟨by rw [C.loc_out]; exact h.1, C.isb_out h.2⟩
  | row j e =>
    obtain ⟨h0, et, sz, fz, e', xs, h1, h2, h3⟩ := h
    refine ⟨h0, et, sz, fz, outE ob ρ j + e', xs, C.back_out h1, by omega, fun he => C.row_out (h3 (by omega))⟩
  | rowk j e k =>
    obtain ⟨h0, et, sz, fz, e', xs, h1, h2, h3⟩ := h
    refine ⟨h0, et, sz, fz, outE ob ρ j + e', xs, C.back_out h1, by omega, fun he => ?_⟩
    obtain ⟨h4, h5, h6⟩ := h3 (by omega)
    exact ⟨h4, h5, C.row_out h6⟩
  | rptr j e i o =>
    obtain ⟨h0, et, sz, fz, e', xs, h1, h2, h3⟩ := h
    refine ⟨h0, et, sz, fz, outE ob ρ j + e', xs, C.back_out h1, by omega, fun he => ?_⟩
    obtain ⟨b, c, h4, h5, h6, h7⟩ := h3 (by omega)
    exact ⟨b, c, h4, h5, h6, C.row_out h7⟩
  | _ => exact h
theorem CallAt.relC (C : CallAt w g ob ρ w' g' ob') {vs : List Value} {cs : List AV} (h : ARelC w' g' ob' vs cs) : ARelC w' (g.out g' ρ ob.length) (back ob ρ ob') vs (cs.map (outC ob ρ)) := by
  refine ⟨by simp [h.1], fun j y u hy hu => ?_⟩
  rw [List.getElem?_map, Option.map_eq_some_iff] at hu
  obtain ⟨u', h1, rfl⟩ := hu
  exact ⟨C.rel0 (h.2 j y u' hy h1).1, (h.2 j y u' hy h1).2⟩
theorem CallAt.rel1 (C : CallAt w g ob ρ w' g' ob') {v : Value} {x : AV} (h : ARel1 w' g' ob' v x) : ARel1 w' (g.out g' ρ ob.length) (back ob ρ ob') v (outA1 ob ρ x) := by
  cases x with
  | agg cs => obtain ⟨vs, rfl, h⟩ := h; exact ⟨vs, rfl, C.relC h⟩
  | tup _ => exact (show False from h).elim
  | val a => exact C.rel0 (x := .val a) h
  | slc a b => exact C.rel0 (x := .slc a b) h
  | ref a => exact C.rel0 (x := .ref a) h
  | opt a => exact C.rel0 (x := .opt a) h
  | box a b => exact C.rel0 (x := .box a b) h
  | row a b => exact C.rel0 (x := .row a b) h
  | rowk a b c => exact C.rel0 (x := .rowk a b c) h
  | rptr a b c d => exact C.rel0 (x := .rptr a b c d) h
  | kb a => exact C.rel0 (x := .kb a) h
  | iter a => exact C.rel0 (x := .iter a) h
  | clo a b c d => exact C.rel0 (x := .clo a b c d) h
  | dead => trivial
theorem CallAt.rel (C : CallAt w g ob ρ w' g' ob') {v : Value} {x : AV} (h : ARel w' g' ob' v x) : ARel w' (g.out g' ρ ob.length) (back ob ρ ob') v (outA ob ρ x) := by
  cases x with
  | tup xs =>
    obtain ⟨vs, rfl, h1, h2⟩ := h
    refine ⟨vs, rfl, by simp [h1], fun j y u hy hu => ?_⟩
    rw [List.getElem?_map, Option.map_eq_some_iff] at hu
    obtain ⟨u', h3, rfl⟩ := hu
    exact C.rel1 (h2 j y u' hy h3)
  | agg cs => exact (C.rel1 (x := .agg cs) h).to
  | val a => exact (C.rel1 (x := .val a) h).to
  | slc a b => exact (C.rel1 (x := .slc a b) h).to
  | ref a => exact (C.rel1 (x := .ref a) h).to
  | opt a => exact (C.rel1 (x := .opt a) h).to
  | box a b => exact (C.rel1 (x := .box a b) h).to
  | row a b => exact (C.rel1 (x := .row a b) h).to
  | rowk a b c => exact (C.rel1 (x := .rowk a b c) h).to
  | rptr a b c d => exact (C.rel1 (x := .rptr a b c d) h).to
  | kb a => exact (C.rel1 (x := .kb a) h).to
  | iter a => exact (C.rel1 (x := .iter a) h).to
  | clo a b c d => exact (C.rel1 (x := .clo a b c d) h).to
  | dead => trivial
theorem CallAt.mem (C : CallAt w g ob ρ w' g' ob') : Mem w' (g.out g' ρ ob.length) (back ob ρ ob') := by
  have E := C.ext
  refine ⟨fun id cs h => ?_, fun id cs h k u hk => ?_, fun id y h => ?_, fun b id h => ?_, fun b o hA => ?_, fun id et sz fz e xs h => ?_, fun b hs => ?_, fun b b' id h1 h2 hs hs' => ?_⟩
  · rcases C.back_cases h with ⟨j, o', h1, rfl, h2⟩ | ⟨hid, hp, h1⟩
    · rcases o' with _ | _ | _ | (_ | _ | _) | _ <;> cases h2
      rename_i cs'
      obtain ⟨hG, cur, T, h3, h4⟩ := C.m'.box j cs' h1
      exact ⟨by rw [C.loc_out]; exact out_G hG, cur, T, by rw [C.loc_out]; exact h3, C.relC h4⟩
    · obtain ⟨hG, cur, T, h3, h4⟩ := C.m.box id cs h1
      obtain ⟨_, _, h5, h6⟩ := C.own_G hG hp
      have hl : (g.out g' ρ ob.length).loc id = g.loc id := E.loc id hid
      exact ⟨by rw [hl]; exact h5, cur, T, by rw [hl, h6]; exact h3, h4.ext E⟩
  · rcases C.back_cases h with ⟨j, o', h1, rfl, h2⟩ | ⟨hid, hp, h1⟩
    · rcases o' with _ | _ | _ | (_ | _ | _) | _ <;> cases h2
      rw [C.loc_out]
      exact C.m'.fbox j _ h1 k u hk
    · obtain ⟨hA, y, h3, h4⟩ := C.m.fbox id cs h1 k u hk
      have hl : (g.out g' ρ ob.length).loc id = g.loc id := E.loc id hid
      rw [hl]
      exact ⟨(E.A _ _ hA).1, y, by rw [(E.A _ _ hA).2]; exact h3, h4.keep E.A⟩
  · rcases C.back_cases h with ⟨j, o', h1, rfl, h2⟩ | ⟨hid, hp, h1⟩
    · rcases o' with _ | _ | _ | (_ | _ | _) | _ <;> cases h2
      · obtain ⟨hG, h3⟩ := C.m'.iter j _ h1
        exact ⟨by rw [C.loc_out]; exact out_G hG, by rw [C.loc_out]; exact h3⟩
      · obtain ⟨hG, h3⟩ := C.m'.iter j _ h1
        exact ⟨by rw [C.loc_out]; exact out_G hG, by rw [C.loc_out]; exact h3⟩
      · obtain ⟨hG, h3, sn', h4, h5⟩ := C.m'.iter j _ h1
        exact ⟨by rw [C.loc_out]; exact out_G hG, by rw [C.back_len]; exact C.outI_lt h3, sn', by rw [C.loc_out, C.loc_out]; exact h4, h5⟩
    · obtain ⟨hG, h3⟩ := C.m.iter id y h1
      obtain ⟨_, _, h5, h6⟩ := C.own_G hG hp
      have hl : (g.out g' ρ ob.length).loc id = g.loc id := E.loc id hid
      exact ⟨by rw [hl]; exact h5, h3.at E.A E.loc (by rw [C.back_len]; omega) (by rw [hl, h6])⟩
  · rw [C.back_len]
    rcases C.G_cases h with ⟨j, hj, rfl⟩ | ⟨_, h1, _⟩
    · exact ⟨(C.m'.own b j hj).1, C.outI_lt (C.m'.own b j hj).2⟩
    · have := C.m.own b id h1
      exact ⟨Nat.lt_of_lt_of_le this.1 C.st.size, by omega⟩
  · refine ⟨(C.m'.imm b o hA).1, fun id h hs => ?_⟩
    rcases C.G_cases h with ⟨j, hj, rfl⟩ | ⟨h0, h1, hp⟩
    · obtain ⟨et, sz, e, xs, h2, h3⟩ := (C.m'.imm b o hA).2 j hj ((out_sub hj).symm.trans hs)
      exact ⟨et, sz, outE ob ρ j + e, xs, C.back_out h2, h3⟩
    · obtain ⟨h4, _, _, _⟩ := C.own_G h1 hp
      rcases C.st.imm b o hA with h5 | ⟨k, h5⟩ | h5
      · obtain ⟨et, sz, e, xs, h2, h3⟩ := (C.m.imm b o h5).2 id h1 ((out_sub' h0 h1 hp).symm.trans hs)
        exact ⟨et, sz, e, xs, by rw [C.back_own (lt_of_some h2) hp]; exact h2, h3⟩
      · rw [h4] at h5; cases h5
      · have := (C.m.own b id h1).1; omega
  · rcases C.back_cases h with ⟨j, o', h1, rfl, h2⟩ | ⟨hid, hp, h1⟩
    · rcases o' with _ | _ | _ | (_ | _ | _) | _ <;> cases h2
      exact C.m'.roww j _ _ _ _ _ h1
    · exact C.m.roww id _ _ _ _ _ h1
  · cases h1 : g'.G b with
    | some j =>
      obtain ⟨j', et, sz, fz, e, xs, h2, h3⟩ := C.m'.nsub b ((out_sub h1).symm.trans hs)
      exact ⟨_, _, _, _, _, _, out_G h2, C.back_out h3⟩
    | none =>
      cases h2 : g.G b with
      | none => simp only [Gh.out, h1, h2] at hs; cases hs
      | some id =>
        cases hp : posOf id ρ with
        | some k => simp only [Gh.out, h1, h2, hp] at hs; cases hs
        | none =>
          obtain ⟨id', et, sz, fz, e, xs, h3, h4⟩ := C.m.nsub b ((out_sub' h1 h2 hp).symm.trans hs)
          rw [h2] at h3
          obtain rfl : id = id' := by simpa using h3
          exact ⟨id, et, sz, fz, e, xs, (C.own_G h2 hp).2.2.1, by rw [C.back_own (lt_of_some h4) hp]; exact h4⟩
  · rcases C.G_cases h1 with ⟨j, hj, rfl⟩ | ⟨h0, h3, hp⟩
    · rcases C.G_cases h2 with ⟨j', hj', he⟩ | ⟨h0', h4, hp'⟩
      · obtain rfl := C.outI_inj he
        exact C.m'.uniq b b' j hj hj' ((out_sub hj).symm.trans hs) ((out_sub hj').symm.trans hs')
      · exact (C.outI_not hp' (C.m.own b' _ h4).2).elim
    · rcases C.G_cases h2 with ⟨j', hj', he⟩ | ⟨h0', h4, hp'⟩
      · subst he
        exact (C.outI_not hp (C.m.own b _ h3).2).elim
      · exact C.m.uniq b b' id h3 h4 ((out_sub' h0 h3 hp).symm.trans hs) ((out_sub' h0' h4 hp').symm.trans hs')
theorem CallAt.step (C : CallAt w g ob ρ w' g' ob') : Step w g ob w' (g.out g' ρ ob.length) (back ob ρ ob') := by
  have none_in : ∀ b, g.G b = none → (g.ren (ρ.map some)).G b = none := fun b h => by simp [Gh.ren, h]
  have some_in : ∀ b k, (g.ren (ρ.map some)).G b = some k → ∃ id, g.G b = some id := fun b k h => by
    obtain ⟨i, _, hG⟩ := ren_Gof h
    exact ⟨i, hG⟩
  refine ⟨C.st.os, C.st.tape, C.st.output, C.st.size, fun b hb hG => C.st.keep b hb (none_in b hG), fun b id h => ?_, fun b o hA => ?_, C.ext, ?_⟩
  · rcases C.G_cases h with ⟨j, hj, rfl⟩ | ⟨_, h1, _⟩
    · rcases C.st.own b j hj with ⟨k, hk⟩ | hk
      · exact .inl (some_in b k hk)
      · exact .inr hk
    · exact .inl ⟨id, h1⟩
  · rcases C.st.imm b o hA with h | ⟨k, h⟩ | h
    · exact .inl h
    · exact .inr (.inl (some_in b k h))
    · exact .inr (.inr h)
  · rw [C.back_len]; omega
end
end Go.Proofs.YtcmjijpofkoogaaGreat
namespace Go.Proofs.YtcmjijpofkoogaaGreat
open Go.RowKit Go.Lib
section
variable {P : Program} {ty : Tys} {Df : List Deferred} {w0 : World} {g0 : Gh} {o0 : List Ob} {N : Nat} {Q : Ex → St → Prop} {w w' : World} {g g' : Gh} {ob ob' : List Ob}
theorem ARel.to1' {v : Value} {x : AV} (h : ARel w g ob v x) (hl : ∀ xs, x ≠ .tup xs) : ARel1 w g ob v x := by cases x <;> first | exact h | exact absurd rfl (hl _)
theorem callee_run {o : Oper} {a : Act} {w : World} {f : Operand} {args : Array Operand} {tys : Array TypeId} {h : Nat} (ho : o.op = .call { callee := .value f, args := args, argTypes := tys }) (hf : a.eval f = .func (.func h) #[] #[])
    (he : ∀ vs w, (callFunc h vs).run P w = .ok (.enter h vs) w) : (execOp a.eval o).run P w = .ok (.enter h (args.map a.eval)) w := by
  simp only [execOp, ho, resolve, hf, Deferred.ofValue, Sem.run_bind, Sem.run_pure, Result.andThen_ok, invoke]
  rw [he]
  simp
theorem argsA_ok {f : Operand} {xs vs : List AV} {ob ob' : List Ob} (h : argsA std f ob xs = some (vs, ob')) : (∀ x ∈ xs, x.live = true) ∧
    ∀ (w : World) (g : Gh) (us : List Value), Mem w g ob → ARelL w g ob us xs → ∃ g', Mem w g' ob' ∧ Ext w g ob w g' ob' ∧ ARelL w g' ob' us vs ∧ GhLe g g' ob ob' := by
  unfold argsA at h
  split at h
  · split at h
    · rename_i hl
      obtain ⟨rfl, rfl⟩ : xs = vs ∧ ob = ob' := by simpa using h
      exact ⟨fun x hx => List.all_eq_true.1 hl x hx, fun w g us M L => ⟨g, M, Ext.refl, L, GhLe.refl⟩⟩
    · cases h
  · exact ⟨each_live _ _ _ _ h, fun w g us M L => frzL _ _ g ob vs ob' M L h⟩
theorem op_call {K : St → Tree} {o : Oper} {s : St} {a : Act} {w : World} {R : Exit → Act → World → Prop} (hs : Sim Df w0 g0 o0 N s a w) (hd : ∀ t, o.dst = some t → t < N)
    {f : Operand} {args : Array Operand} {tys : Array TypeId} {h : Nat} (ho : o.op = .call { callee := .value f, args := args, argTypes := tys }) (hf : ev s f = .val (.func (.func h) #[] #[]))
    {vs : List AV} {ob : List Ob} (he : argsA std f s.ob (args.toList.map (ev s)) = some (vs, ob)) {ρ : List Nat} (hon : onceR (ρ.map some) = true) (hth : there ob ρ = true)
    (hq : rawF f = true ∨ tys.toList.any (ptrT ty) = true ∨ ρ.isEmpty = true) {res : AV} {ob' : List Ob} (hlen : ρ.length ≤ ob'.length) (hc : BCall P h (vs.map (inA ob ρ)) (inObs ob ρ) res ob')
    (hok : (K (St.put ⟨s.tm, back ob ρ ob'⟩ o.dst (outA ob ρ res))).ok Df P w0 g0 o0 N Q) : o.wp P a w (Good Df ty P w0 g0 o0 N Q K o.op w) R := by
  obtain ⟨g, M, hS, h0⟩ := hs.rel
  have hfr := ev_rel hS f
  rw [hf] at hfr
  have hL : ARelL w g s.ob (args.toList.map a.eval) (args.toList.map (ev s)) := by
    refine ⟨by simp, fun j v x hv hx => ?_⟩
    rw [List.getElem?_map, Option.map_eq_some_iff] at hv hx
    obtain ⟨q, hq, rfl⟩ := hv
    obtain ⟨q', hq', rfl⟩ := hx
    rw [hq] at hq'; cases hq'
    exact (ev_rel hS q).to1 ((argsA_ok he).1 _ (List.mem_map.2 ⟨q, List.mem_of_getElem? hq, rfl⟩))
  obtain ⟨g1, M1, E1, L1, G1⟩ := (argsA_ok he).2 w g _ M hL
  have hrun := callee_run (P := P) (w := w) ho hfr.valEq hc.1
  unfold Oper.wp
  rw [hrun]
  show Calls P h (args.map a.eval) w _
  have hargs : args.map a.eval = (args.toList.map a.eval).toArray := by apply Array.ext'; simp
  rw [hargs]
  refine (hc.2 w (g1.ren (ρ.map some)) _ (mem_in M1 hon hth) ⟨by simp [L1.1], fun j v x hv hx => ?_⟩).mono ?_
  · rw [List.getElem?_map, Option.map_eq_some_iff] at hx
    obtain ⟨x', hx', rfl⟩ := hx
    have h1 := L1.2 j v x' hv hx'
    have h2 := inA_rel hon hth h1.to
    cases x' with
    | agg cs => exact h2
    | tup _ => exact (show False from h1).elim
    | box i o => exact h2.to1' (by simp only [inA, inC]; split <;> simp)
    | iter i => exact h2.to1' (by simp only [inA, inC]; split <;> simp)
    | clo f i o t => exact h2.to1' (by simp only [inA, inC]; split <;> simp)
    | row i e => exact h2.to1' (by simp only [inA, inC]; split <;> (try split) <;> (try split) <;> simp)
    | _ => exact h2
  rintro e w' ⟨v, g2, rfl, M2, R2, S2⟩
  have C : CallAt w g1 ob ρ w' g2 ob' := ⟨hon, hth, hlen, M1, M2, S2⟩
  have hS1 : Slots w g1 ⟨s.tm, ob⟩ a := fun t => (hS t).ext E1
  have hs1 : Sim Df w0 g0 o0 N ⟨s.tm, ob⟩ a w := ⟨hs.defers, hs.size, g1, M1, hS1, h0.trans (Step.ghost E1 G1)⟩
  refine ⟨fun hqu => ?_, _, sim_put (s := ⟨s.tm, ob⟩) hs1 hS1 (h0.trans (Step.ghost E1 G1)) C.mem C.step hd (C.rel R2), hok⟩
  rcases hq with hq | hq | hq
  · simp [ho, quietW, hq] at hqu
  · simp [ho, quietW, hq] at hqu
  · have hr : ρ = [] := by simpa using hq
    subst hr
    exact ⟨S2.os, S2.tape, S2.output, S2.size, fun b hb => S2.keep b hb (by
      cases hx : (g1.ren (([] : List Nat).map some)).G b with
      | none => rfl
      | some j =>
        obtain ⟨i, hi, _⟩ := ren_Gof hx
        simp at hi)⟩
theorem op_makeSlice (hT : TyOk P ty) {K : St → Tree} {o : Oper} {s : St} {a : Act} {w : World} {R : Exit → Act → World → Prop} (hs : Sim Df w0 g0 o0 N s a w) (hd : ∀ t, o.dst = some t → t < N)
    {T : Nat} {l c : Operand} (ho : o.op = .makeSlice T l c) {k1 k2 : IntKind} {x n : Int} (hx : ev s l = .val (.int k1 x)) (hn : ev s c = .val (.int k2 n)) (hel : elOk ty T (tyLook (tyLook T ty).elem ty).size = true)
    (hq : (std.all [std.cutok 0 x 0, std.cutok 0 n 1000000]).q)
    (hok : (K (St.put ⟨s.tm, s.ob ++ [.row (tyLook T ty).elem (tyLook (tyLook T ty).elem ty).size false 0 []]⟩ o.dst (.row s.ob.length 0))).ok Df P w0 g0 o0 N Q) : o.wp P a w (Good Df ty P w0 g0 o0 N Q K o.op w) R := by
  obtain ⟨g, M, hS, h0⟩ := hs.rel
  obtain ⟨e, hu, hee, te, hes, hpos⟩ := el_facts hT hel
  have hby := te.by_
  obtain ⟨ie, z, hie, hies, hieb, hiz, hzc, _⟩ := te.i
  rw [hes] at hies
  subst hee
  generalize hE : (tyLook T ty).elem = E at *
  generalize hSZ : (tyLook E ty).size = sz at *
  have hxv : a.eval l = .int k1 x := by have := ev_rel hS l; rw [hx] at this; exact this.valEq
  have hnv : a.eval c = .int k2 n := by have := ev_rel hS c; rw [hn] at this; exact this.valEq
  obtain ⟨⟨_, hx1, hx2⟩, ⟨_, hn1, hn2⟩, _⟩ := hq
  obtain rfl : x = 0 := by omega
  obtain ⟨m, rfl⟩ : ∃ m : Nat, n = m := ⟨n.toNat, by omega⟩
  have hbb : (ie.bytes : Int) * (m : Int) ≤ 281474976710656 := by
    have h1 : ie.bytes * m ≤ 140000 * 1000000 := Nat.mul_le_mul (by omega) (by omega)
    have : ((ie.bytes * m : Nat) : Int) ≤ 281474976710656 := by omega
    rwa [Int.natCast_mul] at this
  have hrun := run_make (P := P) w T E ie z hu hie hiz k1 k2 0 m (Int.le_refl _) (by omega) hbb (by omega)
  simp only [Int.toNat_zero, Int.toNat_natCast] at hrun
  have hr : (execOp a.eval o).run P w = .ok (.value (.slice (some ⟨w.heap.size, 0, none⟩) 0 m)) (w.alloc (.cells (madeCells z.cells (m * ie.size)) E)) := by
    simp only [execOp, ho, hxv, hnv]
    exact run_valW hrun
  have hml : m ≤ maxLen := by unfold maxLen; omega
  have hown : (w.alloc (.cells (madeCells z.cells (m * ie.size)) E)).ownsRow 0 E sz (.slice (some ⟨w.heap.size, 0, none⟩) 0 m) 0 [] :=
    World.ownsRow_made w _ m (Nat.zero_le _) hml (by rw [size_madeCells, hies])
  have hrow : RowV (w.alloc (.cells (madeCells z.cells (m * ie.size)) E)) (g.new w s.ob) s.ob.length E sz (.slice (some ⟨w.heap.size, 0, none⟩) 0 m) [] := by
    refine ⟨[], hown, fun b hb => ?_, Alike.nil, (fun x h => by cases h), fun b hb => ?_, fun he j y hy => by simp at hy⟩
    · obtain rfl : w.heap.size = b := by simpa [Value.ownBlock] using hb
      simp [Gh.new]
    · obtain rfl : w.heap.size = b := by simpa [Value.ownBlock] using hb
      exact M.sub_new (Nat.le_refl _)
  have M' := M.new (.cells (madeCells z.cells (m * ie.size)) E) (.row E sz false 0 []) (fun cs h => by cases h) (fun cs h => by cases h) (fun y h => by cases h) (fun et sz' fz e ys h => by cases h; exact ⟨hpos, fun x h => by cases h⟩)
  refine wp_ok hr ⟨fun _ => (Below.refl _ w).alloc (Nat.le_refl _) _, _, sim_put hs hS h0 M' (Step.new M _ _) hd ?_, hok⟩
  exact ⟨rfl, E, sz, false, 0, [], get_new, Nat.le_refl _, fun _ => hrow⟩
def cloVs (t : Bool) (p : Value) (us : Array Value) : Array Value := match t with
  | true => #[p] ++ us
  | false => us ++ #[p]
theorem clo_run {o : Oper} {a : Act} {w : World} {f : Operand} {args : Array Operand} {tys : Array TypeId} {h l off : Nat} {t : Bool} (ho : o.op = .call { callee := .value f, args := args, argTypes := tys }) (hf : a.eval f = cloV h t l off)
    (he : ∀ vs w, (callFunc h vs).run P w = .ok (.enter h vs) w) : (execOp a.eval o).run P w = .ok (.enter h (cloVs t (.pointer (some ⟨l, off, none⟩)) (args.map a.eval))) w := by
  cases t with
  | true =>
    simp only [execOp, ho, resolve, hf, cloV, cloVs, Deferred.ofValue, Sem.run_bind, Sem.run_pure, Result.andThen_ok, invoke]
    rw [he]
    simp
  | false =>
    simp only [execOp, ho, resolve, hf, cloV, cloVs, Deferred.ofValue, Sem.run_bind, Sem.run_pure, Result.andThen_ok, invoke]
    rw [he]
    simp
theorem op_clo {K : St → Tree} {o : Oper} {s : St} {a : Act} {w : World} {R : Exit → Act → World → Prop} (hs : Sim Df w0 g0 o0 N s a w) (hd : ∀ t, o.dst = some t → t < N)
    {f : Operand} {args : Array Operand} {tys : Array TypeId} {h cid co : Nat} {ct : Bool} (ho : o.op = .call { callee := .value f, args := args, argTypes := tys }) (hf : ev s f = .clo h cid co ct)
    {vs : List AV} {ob : List Ob} (he : argsA std f s.ob (args.toList.map (ev s)) = some (vs, ob)) {ρ : List Nat} (hon : onceR (ρ.map some) = true) (hth : there ob ρ = true)
    (hq : tmpF f tys = true) {res : AV} {ob' : List Ob} (hlen : ρ.length ≤ ob'.length) (hc : BCall P h ((cloA vs cid co ct).map (inA ob ρ)) (inObs ob ρ) res ob')
    (hok : (K (St.put ⟨s.tm, back ob ρ ob'⟩ o.dst (outA ob ρ res))).ok Df P w0 g0 o0 N Q) : o.wp P a w (Good Df ty P w0 g0 o0 N Q K o.op w) R := by
  obtain ⟨g, M, hS, h0⟩ := hs.rel
  have hfr := ev_rel hS f
  rw [hf] at hfr
  obtain ⟨hfv, hfb⟩ : a.eval f = cloV h ct (g.loc cid) co ∧ isBox s.ob[cid]? := hfr
  have hL : ARelL w g s.ob (args.toList.map a.eval) (args.toList.map (ev s)) := by
    refine ⟨by simp, fun j v x hv hx => ?_⟩
    rw [List.getElem?_map, Option.map_eq_some_iff] at hv hx
    obtain ⟨q, hq, rfl⟩ := hv
    obtain ⟨q', hq', rfl⟩ := hx
    rw [hq] at hq'; cases hq'
    exact (ev_rel hS q).to1 ((argsA_ok he).1 _ (List.mem_map.2 ⟨q, List.mem_of_getElem? hq, rfl⟩))
  obtain ⟨g1, M1, E1, L1, G1⟩ := (argsA_ok he).2 w g _ M hL
  have hbx : ARel1 w g1 ob (.pointer (some ⟨g.loc cid, co, none⟩)) (.box cid co) := ARel1.ext (x := .box cid co) E1 ⟨rfl, hfb⟩
  obtain ⟨us, hus, L2⟩ : ∃ us : List Value, cloVs ct (.pointer (some ⟨g.loc cid, co, none⟩)) (args.map a.eval) = us.toArray ∧ ARelL w g1 ob us (cloA vs cid co ct) := by
    cases ct with
    | true =>
      refine ⟨.pointer (some ⟨g.loc cid, co, none⟩) :: args.toList.map a.eval, by apply Array.ext'; simp [cloVs], by simpa [cloA] using L1.1, fun j v x hv hx => ?_⟩
      cases j with
      | zero => cases hv; cases hx; exact hbx
      | succ j => exact L1.2 j v x hv hx
    | false =>
      refine ⟨args.toList.map a.eval ++ [.pointer (some ⟨g.loc cid, co, none⟩)], by apply Array.ext'; simp [cloVs], by simpa [cloA] using L1.1, fun j v x hv hx => ?_⟩
      have hn := L1.1
      by_cases hj : j < vs.length
      · rw [List.getElem?_append_left (by rw [hn]; exact hj)] at hv
        simp only [cloA] at hx
        rw [List.getElem?_append_left hj] at hx
        exact L1.2 j v x hv hx
      · rw [List.getElem?_append_right (by rw [hn]; omega), hn] at hv
        simp only [cloA] at hx
        rw [List.getElem?_append_right (by omega)] at hx
        have : j - vs.length = 0 := by have := lt_of_some hx; simp at this; omega
        rw [this] at hv hx
        cases hv; cases hx; exact hbx
  have hrun := clo_run (P := P) (w := w) ho hfv hc.1
  unfold Oper.wp
  rw [hrun]
  show Calls P h _ w _
  rw [hus]
  refine (hc.2 w (g1.ren (ρ.map some)) _ (mem_in M1 hon hth) ⟨by simp [L2.1], fun j v x hv hx => ?_⟩).mono ?_
  · rw [List.getElem?_map, Option.map_eq_some_iff] at hx
    obtain ⟨x', hx', rfl⟩ := hx
    have h1 := L2.2 j v x' hv hx'
    have h2 := inA_rel hon hth h1.to
    cases x' with
    | agg cs => exact h2
    | tup _ => exact (show False from h1).elim
    | box i o => exact h2.to1' (by simp only [inA, inC]; split <;> simp)
    | iter i => exact h2.to1' (by simp only [inA, inC]; split <;> simp)
    | clo f i o t => exact h2.to1' (by simp only [inA, inC]; split <;> simp)
    | row i e => exact h2.to1' (by simp only [inA, inC]; split <;> (try split) <;> (try split) <;> simp)
    | _ => exact h2
  rintro e w' ⟨v, g2, rfl, M2, R2, S2⟩
  have C : CallAt w g1 ob ρ w' g2 ob' := ⟨hon, hth, hlen, M1, M2, S2⟩
  have hS1 : Slots w g1 ⟨s.tm, ob⟩ a := fun t => (hS t).ext E1
  have hs1 : Sim Df w0 g0 o0 N ⟨s.tm, ob⟩ a w := ⟨hs.defers, hs.size, g1, M1, hS1, h0.trans (Step.ghost E1 G1)⟩
  exact ⟨fun hqu => by simp [ho, quietW, hq] at hqu, _, sim_put (s := ⟨s.tm, ob⟩) hs1 hS1 (h0.trans (Step.ghost E1 G1)) C.mem C.step hd (C.rel R2), hok⟩
theorem op_pan {K : St → Tree} {o : Oper} {s : St} {a : Act} {w : World} {R : Exit → Act → World → Prop} (hs : Sim Df w0 g0 o0 N s a w) (hP : ∀ v s a w, s.tm = [] → Sim Df w0 g0 o0 N s a w → Q (.pan v) s → R (.panic [{ v := v, recovered := false }]) a w)
    {f : Operand} {args : Array Operand} {tys : Array TypeId} {h : Nat} (ho : o.op = .call { callee := .value f, args := args, argTypes := tys }) (hf : ev s f = .val (.func (.func h) #[] #[]))
    {vs : List AV} {ob : List Ob} (he : argsA std f s.ob (args.toList.map (ev s)) = some (vs, ob)) {ρ : List Nat} (hon : onceR (ρ.map some) = true) (hth : there ob ρ = true)
    {x : Value} (hc : BPan P h (vs.map (inA ob ρ)) (inObs ob ρ) x) (hq : ∀ ob', Q (.pan x) ⟨[], ob'⟩) : o.wp P a w (Good Df ty P w0 g0 o0 N Q K o.op w) R := by
  obtain ⟨g, M, hS, h0⟩ := hs.rel
  have hfr := ev_rel hS f
  rw [hf] at hfr
  have hL : ARelL w g s.ob (args.toList.map a.eval) (args.toList.map (ev s)) := by
    refine ⟨by simp, fun j v x hv hx => ?_⟩
    rw [List.getElem?_map, Option.map_eq_some_iff] at hv hx
    obtain ⟨q, hq, rfl⟩ := hv
    obtain ⟨q', hq', rfl⟩ := hx
    rw [hq] at hq'; cases hq'
    exact (ev_rel hS q).to1 ((argsA_ok he).1 _ (List.mem_map.2 ⟨q, List.mem_of_getElem? hq, rfl⟩))
  obtain ⟨g1, M1, E1, L1, G1⟩ := (argsA_ok he).2 w g _ M hL
  have hrun := callee_run (P := P) (w := w) ho hfr.valEq hc.1
  unfold Oper.wp
  rw [hrun]
  show Calls P h (args.map a.eval) w _
  have hargs : args.map a.eval = (args.toList.map a.eval).toArray := by apply Array.ext'; simp
  rw [hargs]
  refine (hc.2 w (g1.ren (ρ.map some)) _ (mem_in M1 hon hth) ⟨by simp [L1.1], fun j v x hv hx => ?_⟩).mono ?_
  · rw [List.getElem?_map, Option.map_eq_some_iff] at hx
    obtain ⟨x', hx', rfl⟩ := hx
    have h1 := L1.2 j v x' hv hx'
    have h2 := inA_rel hon hth h1.to
    cases x' with
    | agg cs => exact h2
    | tup _ => exact (show False from h1).elim
    | box i o => exact h2.to1' (by simp only [inA, inC]; split <;> simp)
    | iter i => exact h2.to1' (by simp only [inA, inC]; split <;> simp)
    | clo f i o t => exact h2.to1' (by simp only [inA, inC]; split <;> simp)
    | row i e => exact h2.to1' (by simp only [inA, inC]; split <;> (try split) <;> (try split) <;> simp)
    | _ => exact h2
  rintro e w' ⟨g2, ob', rfl, M2, S2⟩
  have hlen : ρ.length ≤ ob'.length := by have := S2.len; simpa [inObs] using this
  have C : CallAt w g1 ob ρ w' g2 ob' := ⟨hon, hth, hlen, M1, M2, S2⟩
  exact hP x ⟨[], back ob ρ ob'⟩ a w' rfl ⟨hs.defers, hs.size, _, C.mem, fun _ => trivial, (h0.trans (Step.ghost E1 G1)).trans C.step⟩ (hq _)
theorem op_sound (hT : TyOk P ty) {cs : Nat → List AV → List Ob → Option (AV × List Ob)} {K : St → Tree} {o : Oper} {s : St} {a : Act} {w : World} {R : Exit → Act → World → Prop} (hs : Sim Df w0 g0 o0 N s a w) (hd : ∀ t, o.dst = some t → t < N) (hP : ∀ v s a w, s.tm = [] → Sim Df w0 g0 o0 N s a w → Q (.pan v) s → R (.panic [{ v := v, recovered := false }]) a w)
    (hok : (aop std ty cs K o s).ok Df P w0 g0 o0 N Q) : o.wp P a w (Good Df ty P w0 g0 o0 N Q K o.op w) R := by
  have still : ∀ {s : St}, Sim Df w0 g0 o0 N s a w → ∀ {q : Option DP} {v : AV}, aval std ty s o.op = some (q, v) → (∀ r, q = some r → r) → (K (St.put s o.dst v)).ok Df P w0 g0 o0 N Q → o.wp P a w (Good Df ty P w0 g0 o0 N Q K o.op w) R :=
    fun hs _ _ h hq hk => op_still hs hd (fun g M hS => aval_sound hT hS M h hq) hk
  -- what stands behind 'aval'
  have rest0 : ∀ {s : St}, Sim Df w0 g0 o0 N s a w → (aopRest std ty K o s o.op).ok Df P w0 g0 o0 N Q → o.wp P a w (Good Df ty P w0 g0 o0 N Q K o.op w) R := by
    intro s hs h
    unfold aopRest at h
    split at h
    · rename_i v hv
      exact still hs hv (fun r h => by cases h) h
    · rename_i q v hv
      exact still hs hv (fun r hr => by cases hr; exact h.1) h.2
    · split at h
      · rename_i src dst x ho
        split at h
        · rename_i b hb
          split at h
          · rename_i hk
            exact op_bytes hT hs hd ho hb hk.1 hk.2.1 hk.2.2 h.1 h.2
          · exact h.elim
        · rename_i id ep hx
          split at h
          · rename_i et sz e xs hob
            split at h
            · rename_i hk
              obtain ⟨rfl, rfl, rfl, hk1, hk2⟩ := hk
              exact op_mark hT hs hd ho hx hob hk1 hk2 h.1 h.2
            · exact h.elim
          · exact h.elim
        · exact h.elim
      · exact h.elim
  have rest : (aopRest std ty K o s o.op).ok Df P w0 g0 o0 N Q → o.wp P a w (Good Df ty P w0 g0 o0 N Q K o.op w) R := rest0 hs
  obtain ⟨op, ho⟩ : ∃ op, o.op = op := ⟨_, rfl⟩
  cases op with
  | binOp op T x y T' =>
    rcases nilq_ok (w := w) (a := a) hT ho hok with h | ⟨z, h1, h2⟩
    · exact rest h
    · exact op_still hs hd (fun g M hS => h2 g _ hS) h1
  | assign x =>
    simp only [aop, ho] at hok
    exact rest0 (commit_sim x hs) (by rw [ho]; exact hok)
  | slice T x lo hi m =>
    cases lo with
    | none => exact rest (by rw [ho]; simpa only [aop, ho] using hok)
    | some l =>
      simp only [aop, ho] at hok
      exact rest0 (thaw_sim x hs) (by rw [ho]; exact hok)
  | alloc T =>
    simp only [aop, ho] at hok
    split at hok
    · rename_i hk; exact op_alloc hT hs hd ho hk hok
    · exact hok.elim
  | box T x =>
    simp only [aop, ho] at hok
    split at hok
    · rename_i hk; exact op_box hs hd ho hk hok
    · exact hok.elim
  | store T x y =>
    simp only [aop, ho] at hok
    have hs := commit_sim y hs
    generalize commit std s y = s1 at hok hs
    unfold aopStore at hok
    split at hok
    · rename_i id off hx
      split at hok
      · rename_i c hb
        split at hok
        · rename_i hk
          exact op_store hT hs hd ho hx hb hk.1 hk.2.1 hk.2.2.1 hk.2.2.2 hok
        · exact hok.elim
      · exact hok.elim
    · rename_i id ep i off hx
      split at hok
      · rename_i et sz e xs hb
        split at hok
        · rename_i hk
          exact op_storeR hT hs hd ho hx hb hk.1 hk.2.1 hk.2.2.1 hk.2.2.2.1 hk.2.2.2.2.1 hk.2.2.2.2.2.1 hk.2.2.2.2.2.2 hok
        · exact hok.elim
      · exact hok.elim
    · exact hok.elim
  | buildSlice T len parts =>
    simp only [aop, ho] at hok
    split at hok
    · rename_i xs ob he
      split at hok
      · rename_i hk
        exact op_buildSlice hT hs hd ho he hk.1 hk.2.1 hk.2.2.1 hk.2.2.2.1 hk.2.2.2.2.1 hk.2.2.2.2.2.1 hk.2.2.2.2.2.2 hok
      · exact hok.elim
    · exact hok.elim
  | makeSlice T l c =>
    simp only [aop, ho] at hok
    split at hok
    · rename_i k1 x k2 n hx hn
      split at hok
      · rename_i hel; exact op_makeSlice hT hs hd ho hx hn hel hok.1 hok.2
      · exact hok.elim
    · exact hok.elim
  | makeMap T r =>
    cases r with
    | none => exact op_makeMap hs hd ho (by simpa only [aop, ho] using hok)
    | some _ => simp [aop, ho, aopRest, aval, Tree.ok] at hok
  | lookup T x i c => exact op_look hT hs hd ho (by simpa only [aop, ho] using hok)
  | mapUpdate T m i x => exact op_mapPut hT hs hd ho (by simpa only [aop, ho] using hok)
  | range T x =>
    simp only [aop, ho] at hok
    split at hok
    · rename_i b hb
      split at hok
      · rename_i hk; exact op_range hT hs hd ho hb hk hok
      · exact hok.elim
    · rename_i id hi
      split at hok
      · rename_i es hob
        split at hok
        · rename_i hk; exact op_rangeM hT hs hd ho hi hob hk hok
        · exact hok.elim
      · exact hok.elim
    · exact hok.elim
  | next it b =>
    cases b with
    | false =>
      simp only [aop, ho] at hok
      split at hok
      · rename_i id hi
        split at hok
        · rename_i m es seen _ hob
          split at hok
          · rename_i es2 hom
            exact op_nextM hs hd ho hi hob hom hok.1 hok.2.1 hok.2.2
          · exact hok.elim
        · exact hok.elim
      · exact hok.elim
    | true =>
      simp only [aop, ho] at hok
      split at hok
      · rename_i id hi
        split at hok
        · rename_i b pos hob
          exact op_next hs hd ho hi hob hok.1 hok.2
        · exact hok.elim
      · exact hok.elim
  | entry it =>
    simp only [aop, ho] at hok
    split at hok
    · rename_i id hi
      split at hok
      · rename_i m es seen j q hob
        split at hok
        · rename_i es2 hom
          exact op_entryM hs hd ho hi hob hom hok.1 hok.2.1 hok.2.2
        · exact hok.elim
      · exact hok.elim
    · exact hok.elim
  | call c =>
    obtain ⟨callee, args, tys⟩ := c
    cases callee with
    | builtin b =>
      cases b with
      | append =>
        simp only [aop, ho] at hok
        split at hok
        · rename_i x y T U ha ht
          split at hok
          · rename_i sz news hsrc
            split at hok
            · rename_i hel
              obtain ⟨hsubk, hel⟩ := hel
              have hpos : 0 < sz := by obtain ⟨e, _, _, _, _, h⟩ := el_facts hT hel; exact h
              split at hok
              · rename_i hx
                have hlen : s.ob.length = s.ob.length := rfl
                have hset : (s.ob ++ [Ob.row (tyLook T ty).elem sz false 0 []]).set s.ob.length (.row (tyLook T ty).elem sz false (0 + 1) (std.app [] news)) = s.ob ++ [.row (tyLook T ty).elem sz false 1 (std.app [] news)] := by
                  rw [List.set_append_right _ _ (Nat.le_refl _), Nat.sub_self]; rfl
                refine op_append_row hT hs hd ho ha ht (ob := s.ob ++ [.row (tyLook T ty).elem sz false 0 []]) (fun g M => ⟨M.addRow hpos, Ext.addRow _, Step.addRow _⟩) (id := s.ob.length) get_new (xs' := []) (fun g M hS => ?_) (fun h => by cases h) hel rfl hsrc hsubk hok.1 ?_
                · have hxr := ev_rel hS x
                  rw [hx] at hxr
                  rw [hxr.valEq]
                  refine ⟨[], World.ownsRow_nil _ _ _ _, ?_, Alike.nil, ?_, ?_, ?_⟩
                  · intro b h; cases h
                  · intro x h; cases h
                  · intro b h; cases h
                  · intro _ j y h; simp at h
                · rw [hset]; exact hok.2
              · rename_i id ep hx
                split at hok
                · rename_i et sz' fz e xs hob
                  split at hok
                  · rename_i hk
                    obtain ⟨rfl, rfl, rfl⟩ := hk
                    refine op_append_row hT hs hd ho ha ht (ob := s.ob) (fun g M => ⟨M, Ext.refl, Step.refl⟩) hob (fun g M hS => ?_) (fun _ => rfl) hel rfl hsrc hsubk hok.1 hok.2
                    have hxr := ev_rel hS x
                    rw [hx] at hxr
                    obtain ⟨_, et, sz, fz, e, xs, h1, h2, h3⟩ := hxr
                    rw [hob] at h1
                    cases h1
                    exact h3 rfl
                  · exact hok.elim
                · exact hok.elim
              · rename_i id ep k hx
                split at hok
                · rename_i et sz' e xs hob
                  split at hok
                  · rename_i hk
                    obtain ⟨rfl, rfl, rfl⟩ := hk
                    refine op_append_row hT hs hd ho ha ht (ob := s.ob) (fun g M => ⟨M, Ext.refl, Step.refl⟩) hob (xs' := std.cut xs 0 k) (fun g M hS => ?_) (fun h => by cases h) hel rfl hsrc hsubk hok.1 hok.2
                    have hxr := ev_rel hS x
                    rw [hx] at hxr
                    obtain ⟨_, et, sz, fz, e, xs, h1, h2, h3⟩ := hxr
                    rw [hob] at h1
                    cases h1
                    have e : std.cut xs 0 k = xs.take k.toNat := by simp [std]
                    rw [e]
                    exact (h3 rfl).2.2
                  · exact hok.elim
                · exact hok.elim
              · exact hok.elim
            · exact hok.elim
          · exact hok.elim
        · exact hok.elim
      | _ => exact rest (by rw [ho]; simpa only [aop, ho] using hok)
    | invoke _ _ => exact rest (by rw [ho]; simpa only [aop, ho] using hok)
    | value f =>
      simp only [aop, ho] at hok
      split at hok
      · rename_i h ca cb hf
        split at hok
        · rename_i hab
          obtain rfl : ca = #[] := Array.eq_empty_of_size_eq_zero hab.1
          obtain rfl : cb = #[] := Array.eq_empty_of_size_eq_zero hab.2
          split at hok
          · rename_i vs ob he
            split at hok
            · rename_i hk
              split at hok
              · exact op_pan hs hP ho hf he hk.1 hk.2.1 hok.1 hok.2
              · rename_i v c res ob' hcs
                obtain ⟨h1, h2⟩ := hok
                cases c with
                | true =>
                  have hok := h1 rfl
                  split at hok
                  · rename_i hlen
                    exact op_call hs hd ho hf he hk.1 hk.2.1 hk.2.2 hlen hok.1 hok.2
                  · exact hok.elim
                | false => exact op_pan hs hP ho hf he hk.1 hk.2.1 (h2 rfl).1 (h2 rfl).2
              · rename_i res ob' _ _ hcs
                split at hok
                · rename_i hlen
                  exact op_call hs hd ho hf he hk.1 hk.2.1 hk.2.2 hlen hok.1 hok.2
                · exact hok.elim
              · exact hok.elim
            · exact hok.elim
          · exact hok.elim
        · exact hok.elim
      · rename_i h cid co ct hf
        split at hok
        · rename_i vs ob he
          split at hok
          · rename_i hk
            split at hok
            · rename_i res ob' hcs
              split at hok
              · rename_i hlen
                exact op_clo hs hd ho hf he hk.1 hk.2.1 hk.2.2 hlen hok.1 hok.2
              · exact hok.elim
            · exact hok.elim
          · exact hok.elim
        · exact hok.elim
      · exact hok.elim
  | _ => exact rest (by rw [ho]; simpa only [aop, ho] using hok)
end
end Go.Proofs.YtcmjijpofkoogaaGreat
namespace Go.Proofs.YtcmjijpofkoogaaGreat
open Go.RowKit Go.Lib
section
variable {P : Program} {ops : Array Oper} {Q : Exit → Act → World → Prop} {md : Region.Mode} {late : Nat → Bool}
def wpR (P : Program) (md : Region.Mode) (ops : Array Oper) (late : Nat → Bool) (Q : Exit → Act → World → Prop) : Nat → Array Bool → Act → World → Prop
  | 0, listed, a, w => Region.ready md ops listed = [] ∧ Q .normal a w
  | n + 1, listed, a, w => (Region.ready md ops listed = [] → Q .normal a w) ∧
      ∀ i ∈ Region.ready md ops listed, wpOp P ops Q i (fun a' w' => (late i = false → LeB w w') ∧ wpR P md ops late Q n (listed.setIfInBounds i true) a' w') a w
theorem wpAny_of_R : ∀ (n : Nat) (listed : Array Bool) (a : Act) (w : World), wpR P md ops late Q n listed a w → wpAny P md ops Q n listed a w
  | 0, _, _, _, h => h
  | n + 1, _, _, _, h => ⟨h.1, fun i hi => wpOp_mono (fun a' w' h' => wpAny_of_R n _ a' w' h'.2) (h.2 i hi)⟩
def Closed (md : Region.Mode) (ops : Array Oper) (listed : Array Bool) : Prop :=
  ∀ (j : Nat) oj, ops[j]? = some oj → listed.getD j true = true → ∀ e ∈ oj.after, Region.binds md e = true → listed.getD e.on true = true
def anc (md : Region.Mode) (ops : Array Oper) (i : Nat) : Nat → Nat → Bool
  | 0, _ => false
  | n + 1, j => match ops[j]? with
    | some oj => oj.after.any fun e => Region.binds md e && (e.on == i || anc md ops i n e.on)
    | none => false
theorem getD_mono {listed : Array Bool} {k : Nat} (h : listed.getD k false = true) : listed.getD k true = true := by
  rcases Nat.lt_or_ge k listed.size with h' | h'
  · simp [h'] at h ⊢; exact h
  · simp [Nat.not_lt.2 h'] at h ⊢
theorem Closed.set {listed : Array Bool} (h : Closed md ops listed) {j : Nat} (hr : j ∈ Region.ready md ops listed) : Closed md ops (listed.setIfInBounds j true) := by
  have up : ∀ k, listed.getD k true = true → (listed.setIfInBounds j true).getD k true = true := fun k hk => by
    by_cases e : j = k
    · subst e
      rcases Nat.lt_or_ge j listed.size with h' | h'
      · simp [h']
      · simp [Nat.not_lt.2 h']
    · rw [getD_set_ne true e]; exact hk
  intro k ok hk hl e he hb
  by_cases hjk : j = k
  · subst hjk
    obtain ⟨_, o, ho, hall⟩ := mem_ready.1 hr
    rw [hk] at ho; cases ho
    exact up _ (getD_mono (hall e he hb))
  · rw [getD_set_ne true hjk] at hl
    exact up _ (h k ok hk hl e he hb)
theorem anc_not {listed : Array Bool} (h : Closed md ops listed) {i : Nat} (hi : listed.getD i true = false) : ∀ (n j : Nat), anc md ops i n j = true → ∀ oj, ops[j]? = some oj →
    ¬ (∀ e ∈ oj.after, Region.binds md e = true → listed.getD e.on true = true)
  | 0, _, h0, _, _, _ => by cases h0
  | n + 1, j, h0, oj, hj, hall => by
    simp only [anc, hj] at h0
    obtain ⟨e, he, hb⟩ := Array.any_eq_true'.1 h0
    simp only [Bool.and_eq_true, Bool.or_eq_true, beq_iff_eq] at hb
    obtain ⟨hb, h1 | h1⟩ := hb
    · have := hall e he hb
      rw [h1, hi] at this; cases this
    · have hl := hall e he hb
      cases hk : ops[e.on]? with
      | none =>
        cases n <;> simp [anc, hk] at h1
      | some ok => exact anc_not h hi n e.on h1 ok hk (h e.on ok hk hl)
theorem wpR_first {i : Nat} {oi : Oper} {v : Value} {rd : Bool} (hi : ops[i]? = some oi)
    (hsel : ∀ (j : Nat) (o : Oper) cs b, ops[j]? = some o → o.op ≠ .select cs b)
    (hQ : ∀ c a w, Q (.panic c) (a.put oi.dst v) w → Q (.panic c) a w) (hli : late i = false) :
    ∀ (n : Nat) (listed : Array Bool) (a : Act) (w : World), Closed md ops listed → (rd = true → ∀ j oj, ops[j]? = some oj → late j = true → listed.getD j true = false → anc md ops i ops.size j = true) →
      (∀ j oj, ops[j]? = some oj → j ≠ i → listed.getD j true = false → (∀ e ∈ oj.after, Region.binds md e = true → e.on ≠ i) → oi.apart ops oj = true) →
      i ∈ Region.ready md ops listed → YieldsIf P ops (fun W => rd = true → LeB w W) oi v a →
      wpR P md ops late Q n (listed.setIfInBounds i true) (a.put oi.dst v) w → wpR P md ops late Q (n + 1) listed a w := by
  intro n
  induction n with
  | zero =>
    intro listed a w hC _ _ hr hy H
    refine ⟨fun h => (by rw [h] at hr; cases hr), fun j hj => ?_⟩
    by_cases hji : j = i
    · subst hji; exact hy.wpOp hi (fun _ => LeB.refl w) ⟨fun _ => LeB.refl w, H⟩
    · have := ready_mono hj hji
      rw [H.1] at this
      cases this
  | succ n ih =>
    intro listed a w hC hlate hfree hr hy H
    refine ⟨fun h => (by rw [h] at hr; cases hr), fun j hj => ?_⟩
    by_cases hji : j = i
    · subst hji; exact hy.wpOp hi (fun _ => LeB.refl w) ⟨fun _ => LeB.refl w, H⟩
    · have h1 := H.2 j (ready_mono hj hji)
      obtain ⟨hjun, oj, hoj, hall⟩ := mem_ready.1 hj
      have hun := (mem_ready.1 hr).1
      have hnot : ∀ e ∈ oj.after, Region.binds md e = true → e.on ≠ i := fun e he hb heq => by
        have h1 := hall e he hb
        rw [heq] at h1
        have := getD_mono h1
        rw [hun] at this; cases this
      have h2 := wpOp_putIf (S := fun W => rd = true → LeB w W) hoj (hfree j oj hoj hji hjun hnot) (fun cs b => hsel i oi cs b hi) (fun cs b => hsel j oj cs b hoj) hQ hy h1
      have hfree' : ∀ k ok, ops[k]? = some ok → k ≠ i → (listed.setIfInBounds j true).getD k true = false →
          (∀ e ∈ ok.after, Region.binds md e = true → e.on ≠ i) → oi.apart ops ok = true := fun k ok hk hki hun hno => by
        refine hfree k ok hk hki ?_ hno
        by_cases hjk : j = k
        · subst hjk; exact hjun
        · rw [getD_set_ne true hjk] at hun; exact hun
      refine wpOp_mono (fun a' w' h3 => ?_) h2
      obtain ⟨h3, h4, h5⟩ := h3
      -- what is read stays
      have hle : rd = true → LeB w w' := fun hri => by
        refine h4 ?_
        cases hlj : late j with
        | false => rfl
        | true => exact (anc_not hC hun _ _ (hlate hri j oj hoj hlj hjun) oj hoj (fun e he hb => getD_mono (hall e he hb))).elim
      have hlate' : rd = true → ∀ k ok, ops[k]? = some ok → late k = true → (listed.setIfInBounds j true).getD k true = false → anc md ops i ops.size k = true := fun hri k ok hk hl hun => by
        refine hlate hri k ok hk hl ?_
        by_cases hjk : j = k
        · subst hjk; exact hjun
        · rw [getD_set_ne true hjk] at hun; exact hun
      refine ⟨h4, ih (listed.setIfInBounds j true) a' w' (hC.set hj) hlate' hfree' (ready_mono hr (Ne.symm hji)) (YieldsIf.weaken h3 fun V hV hri => LeB.trans _ _ _ (hle hri) (hV hri)) ?_⟩
      rw [Array.setIfInBounds_comm _ _ hji]
      exact h5
end
def stillO (ty : Tys) : Op → Bool
  | .alloc _ | .box _ _ | .store _ _ _ | .buildSlice _ _ _ | .makeSlice _ _ _ | .range _ _ | .next _ _ | .entry _ | .makeMap _ _ | .lookup _ _ _ _ | .mapUpdate _ _ _ _ => false
  | .call { callee := .builtin .append, .. } | .call { callee := .value _, .. } => false
  | .convert _ dst _ => !(tyLook dst ty).sl
  | _ => true
def lateO (ty : Tys) (ops : Array Oper) (j : Nat) : Bool := match ops[j]? with
  | some o => !quietW ty o.op
  | none => false
def OT.heads : OT → List Nat
  | .nil => []
  | .cons i _ => [i]
  | .fork a b => a.heads ++ b.heads
def drawOk (md : Region.Mode) (ty : Tys) (ops : Array Oper) : OT → Nat → Array Bool → Bool → Bool
  | .nil, n, listed, among => n == 0 && !among && (Region.ready md ops listed).isEmpty
  | .cons i rest, n, listed, among => n != 0 && (match ops[i]? with
      | some o => (if among then (Region.ready md ops listed).contains i else Region.ready md ops listed == [i] || (stillO ty o.op && (Region.ready md ops listed).contains i && Region.free md ops listed i &&
          (!readsM o.op || (List.range ops.size).all fun j => !lateO ty ops j || (listed.getD j true || anc md ops i ops.size j))))
      | none => false) && drawOk md ty ops rest (n - 1) (listed.setIfInBounds i true) false
  | .fork a b, n, listed, among => (among || (!(Region.ready md ops listed).isEmpty && (Region.ready md ops listed).all fun i => (OT.fork a b).heads.contains i)) &&
      drawOk md ty ops a n listed true && drawOk md ty ops b n listed true
def ordOk (md : Region.Mode) (ty : Tys) (ord : Nat → OT) : Code → Bool
  | .region id ops draw => if draw then Region.noSelect ops && drawOk md ty ops ((ord id).or ops.size) ops.size (Array.replicate ops.size false) false else true
  | .seq a b => ordOk md ty ord a && ordOk md ty ord b
  | .cond _ a b => ordOk md ty ord a && ordOk md ty ord b
  | .block _ c => ordOk md ty ord c
  | .loop c => ordOk md ty ord c
  | _ => true
def dstOk (N : Nat) : Code → Bool
  | .region _ ops _ => ops.all fun o => match o.dst with | some d => decide (d < N) | none => true
  | .seq a b => dstOk N a && dstOk N b
  | .cond _ a b => dstOk N a && dstOk N b
  | .block _ c => dstOk N c
  | .loop c => dstOk N c
  | _ => true
section
variable {P : Program} {ty : Tys} {Df : List Deferred} {w0 : World} {g0 : Gh} {o0 : List Ob} {N : Nat} {Q : Ex → St → Prop}
theorem still_sound (hT : TyOk P ty) {cs : Nat → List AV → List Ob → Option (AV × List Ob)} {K : St → Tree} {o : Oper} {s : St} {a : Act} {w : World} (hst : stillO ty o.op = true)
    (hok : (aop std ty cs K o s).ok Df P w0 g0 o0 N Q) : ∃ s1 x, (∀ a w, Sim Df w0 g0 o0 N s a w → Sim Df w0 g0 o0 N s1 a w) ∧ (K (St.put s1 o.dst x)).ok Df P w0 g0 o0 N Q ∧ ∀ g, Mem w g s1.ob → Slots w g s1 a → Yld P w g s1 a o (readsM o.op) x := by
  have rest0 : ∀ s1, (∀ a w, Sim Df w0 g0 o0 N s a w → Sim Df w0 g0 o0 N s1 a w) → (aopRest std ty K o s1 o.op).ok Df P w0 g0 o0 N Q → ∃ s1 x, (∀ a w, Sim Df w0 g0 o0 N s a w → Sim Df w0 g0 o0 N s1 a w) ∧ (K (St.put s1 o.dst x)).ok Df P w0 g0 o0 N Q ∧ ∀ g, Mem w g s1.ob → Slots w g s1 a → Yld P w g s1 a o (readsM o.op) x := by
    intro s1 h1 h
    unfold aopRest at h
    split at h
    · rename_i v hv
      exact ⟨s1, v, h1, h, fun g M hS => aval_sound hT hS M hv (fun r h => by cases h)⟩
    · rename_i q v hv
      exact ⟨s1, v, h1, h.2, fun g M hS => aval_sound hT hS M hv (fun r hr => by cases hr; exact h.1)⟩
    · split at h
      · rename_i src dst x ho
        rw [ho] at hst
        simp only [stillO, Bool.not_eq_true'] at hst
        split at h
        · split at h
          · rename_i hk
            rw [hk.2.1] at hst; cases hst
          · exact h.elim
        · split at h
          · split at h
            · rename_i hk
              rw [← hk.2.1, hk.2.2.2.1] at hst; cases hst
            · exact h.elim
          · exact h.elim
        · exact h.elim
      · exact h.elim
  have rest := rest0 s (fun _ _ h => h)
  obtain ⟨op, ho⟩ : ∃ op, o.op = op := ⟨_, rfl⟩
  cases op with
  | assign x =>
    simp only [aop, ho] at hok
    exact rest0 _ (fun a w h => commit_sim x h) (by rw [ho]; exact hok)
  | slice T x lo hi m =>
    cases lo with
    | none => exact rest (by rw [ho]; simpa only [aop, ho] using hok)
    | some l =>
      simp only [aop, ho] at hok
      exact rest0 _ (fun a w h => thaw_sim x h) (by rw [ho]; exact hok)
  | binOp op T x y T' =>
    rcases nilq_ok (w := w) (a := a) hT ho hok with h | ⟨z, h1, h2⟩
    · exact rest h
    · exact ⟨s, z, fun _ _ h => h, h1, fun g _ hS => h2 g _ hS⟩
  | alloc T => simp [ho, stillO] at hst
  | box T x => simp [ho, stillO] at hst
  | store T x y => simp [ho, stillO] at hst
  | buildSlice T len parts => simp [ho, stillO] at hst
  | range T x => simp [ho, stillO] at hst
  | makeMap T r => simp [ho, stillO] at hst
  | makeSlice T l c => simp [ho, stillO] at hst
  | lookup T x i c => simp [ho, stillO] at hst
  | mapUpdate T m i x => simp [ho, stillO] at hst
  | next it b => simp [ho, stillO] at hst
  | entry it => simp [ho, stillO] at hst
  | call c =>
    obtain ⟨callee, args, tys⟩ := c
    cases callee with
    | builtin b =>
      cases b with
      | append => simp [ho, stillO] at hst
      | _ => exact rest (by rw [ho]; simpa only [aop, ho] using hok)
    | invoke _ _ => exact rest (by rw [ho]; simpa only [aop, ho] using hok)
    | value f => simp [ho, stillO] at hst
  | _ => exact rest (by rw [ho]; simpa only [aop, ho] using hok)
end
end Go.Proofs.YtcmjijpofkoogaaGreat
namespace Go.Proofs.YtcmjijpofkoogaaGreat
open Go.RowKit Go.Lib
section
variable {P : Program} {ty : Tys} {Df : List Deferred} {w0 : World} {g0 : Gh} {o0 : List Ob} {N : Nat} {Q : Ex → St → Prop} {w : World} {a : Act} {s : St}
theorem sim_known (hs : Sim Df w0 g0 o0 N s a w) {d : Nat} {b : Bool} (hv : lk d s.tm = .val (.bool b)) (c : Bool) (hc : b = c) : Sim Df w0 g0 o0 N (s.put (some d) (.kb c)) a w := by
  subst hc
  obtain ⟨g, M, hS, h0⟩ := hs.rel
  refine ⟨hs.defers, hs.size, g, M, fun t => ?_, h0⟩
  show ARel w g s.ob _ (if t = d then .kb b else lk t s.tm)
  by_cases e : t = d
  · subst e
    rw [if_pos rfl]
    have h := hS t
    rw [hv] at h
    exact h.valEq
  · rw [if_neg e]; exact hS t
theorem sim_undef (hs : Sim Df w0 g0 o0 N s a w) {d : Option Nat} (hd : ∀ t, d = some t → t < N) : Sim Df w0 g0 o0 N (s.put d (.tup [])) (a.put d undef) w := by
  obtain ⟨g, M, hS, h0⟩ := hs.rel
  exact sim_put (s := s) (ob' := s.ob) hs hS h0 M Step.refl hd (v := undef) (x := .tup []) ⟨#[], rfl, rfl, fun j y u h => by simp at h⟩
theorem sim_bool (hs : Sim Df w0 g0 o0 N s a w) {d : Nat} {b : Bool} (hv : lk d s.tm = .kb b) : a.tmps.getD d undef = .bool b := by
  obtain ⟨g, M, hS, h0⟩ := hs.rel
  have h := hS d
  rw [hv] at h
  exact h
theorem want_at {ops : Array Oper} (hs : Sim Df w0 g0 o0 N s a w) {o : Oper} {j d : Nat} {b want : Bool} (hg : o.guard = some (j, want)) (hd : (ops[j]?).bind (·.dst) = some d) (hv : lk d s.tm = .kb b) :
    Region.wanted o (yielded ops a.tmps) = (b == want) := by
  have h := sim_bool hs hv
  have h1 : a.tmps[d]? = some (.bool b) := by
    rw [Array.getD_eq_getD_getElem?] at h
    cases hx : a.tmps[d]? with
    | none => rw [hx] at h; cases h
    | some x => rw [hx] at h; exact congrArg some h
  simp only [Region.wanted, hg, yielded, hd, Option.bind_some, h1]
  cases b <;> cases want <;> rfl
theorem guard_sound {cs : Nat → List AV → List Ob → Option (AV × List Ob)} {ops : Array Oper} {K : St → Tree} {i : Nat} {rest : OT} {o : Oper} (ho : ops[i]? = some o) (hs : Sim Df w0 g0 o0 N s a w)
    (hok : (aops std ty cs ops.toList K (.cons i rest) s).ok Df P w0 g0 o0 N Q) :
    (Region.wanted o (yielded ops a.tmps) = true ∧ ∃ s', Sim Df w0 g0 o0 N s' a w ∧ (aop std ty cs (aops std ty cs ops.toList K rest) o s').ok Df P w0 g0 o0 N Q) ∨
    (Region.wanted o (yielded ops a.tmps) = false ∧ ∃ s', Sim Df w0 g0 o0 N s' a w ∧ (aops std ty cs ops.toList K rest (s'.put o.dst (.tup []))).ok Df P w0 g0 o0 N Q) := by
  simp only [aops, Array.getElem?_toList, ho] at hok
  split at hok
  · rename_i hg
    exact .inl ⟨by simp [Region.wanted, hg], s, hs, hok⟩
  · rename_i j want hg
    split at hok
    · exact hok.elim
    · rename_i d hd
      split at hok
      · rename_i b hv
        have hw := want_at (ops := ops) hs hg hd hv
        split at hok
        · exact .inl ⟨hw, s, hs, hok⟩
        · exact .inl ⟨hw, s, hs, hok⟩
        · rename_i hne1 hne2
          refine .inr ⟨?_, s, hs, hok⟩
          rw [hw]
          cases b <;> cases want
          · exact (hne2 rfl rfl).elim
          · rfl
          · rfl
          · exact (hne1 rfl rfl).elim
      · rename_i b hv
        have e : ∀ c : Bool, lk d (s.put (some d) (.kb c)).tm = .kb c := fun c => if_pos rfl
        split at hok
        · obtain ⟨h1, h2⟩ := hok
          cases b with
          | true =>
            have hs' := sim_known hs hv true rfl
            exact .inl ⟨want_at (ops := ops) hs' hg hd (e true), _, hs', h1 rfl⟩
          | false =>
            have hs' := sim_known hs hv false rfl
            exact .inr ⟨want_at (ops := ops) hs' hg hd (e false), _, hs', h2 rfl⟩
        · obtain ⟨h1, h2⟩ := hok
          cases b with
          | true =>
            have hs' := sim_known hs hv true rfl
            exact .inr ⟨want_at (ops := ops) hs' hg hd (e true), _, hs', h1 rfl⟩
          | false =>
            have hs' := sim_known hs hv false rfl
            exact .inl ⟨want_at (ops := ops) hs' hg hd (e false), _, hs', h2 rfl⟩
      · rename_i hv
        refine .inr ⟨?_, s, hs, hok⟩
        obtain ⟨g, M, hS, h0⟩ := hs.rel
        have h1 := hS d
        rw [hv] at h1
        obtain ⟨vs, h2, _⟩ := h1
        rw [Array.getD_eq_getD_getElem?] at h2
        simp only [Region.wanted, hg, yielded, hd, Option.bind_some]
        cases hx : a.tmps[d]? with
        | none => cases want <;> rfl
        | some x =>
          rw [hx] at h2
          obtain rfl : x = .tuple vs := h2
          cases want <;> rfl
      · exact hok.elim
theorem dst_at {ops : Array Oper} (hd : (ops.all fun o => match o.dst with | some d => decide (d < N) | none => true) = true) {i : Nat} {o : Oper} (ho : ops[i]? = some o) : ∀ t, o.dst = some t → t < N := fun t ht => by
  have := Array.all_eq_true_iff_forall_mem.1 hd o (Array.mem_of_getElem? ho)
  simpa [ht] using this
theorem aops_sound (hT : TyOk P ty) {cs : Nat → List AV → List Ob → Option (AV × List Ob)} {ops : Array Oper} {K : St → Tree} {R : Exit → Act → World → Prop}
    (hd : (ops.all fun o => match o.dst with | some d => decide (d < N) | none => true) = true) (hK : ∀ s a w, Sim Df w0 g0 o0 N s a w → (K s).ok Df P w0 g0 o0 N Q → R .normal a w)
    (hP : ∀ v s a w, s.tm = [] → Sim Df w0 g0 o0 N s a w → Q (.pan v) s → R (.panic [{ v := v, recovered := false }]) a w) :
    ∀ (l : List Nat) (s : St) (a : Act) (w : World), Sim Df w0 g0 o0 N s a w → (aops std ty cs ops.toList K (OT.of l) s).ok Df P w0 g0 o0 N Q → wpOps P ops R l a w
  | [], s, a, w, hs, hok => hK s a w hs hok
  | i :: rest, s, a, w, hs, hok => by
    unfold wpOps
    cases ho : ops[i]? with
    | none => simp [OT.of, aops, Array.getElem?_toList, ho, Tree.ok] at hok
    | some o =>
      rcases guard_sound (rest := OT.of rest) ho hs hok with ⟨hw, s', hs', h⟩ | ⟨hw, s', hs', h⟩
      · simp only [hw, if_true]
        exact .inl (Oper.wp_mono (fun a' w' hg => by
          obtain ⟨_, s2, hs2, h2⟩ := hg
          exact aops_sound hT hd hK hP rest s2 a' w' hs2 h2) (op_sound hT hs' (dst_at hd ho) hP h))
      · simp only [hw, Bool.false_eq_true, if_false]
        exact aops_sound hT hd hK hP rest _ _ w (sim_undef hs' (dst_at hd ho)) h
theorem aops_draw (hT : TyOk P ty) {cs : Nat → List AV → List Ob → Option (AV × List Ob)} {ops : Array Oper} {K : St → Tree} {R : Exit → Act → World → Prop} {md : Region.Mode}
    (hd : (ops.all fun o => match o.dst with | some d => decide (d < N) | none => true) = true) (hn : Region.noSelect ops = true) (hQ : ∀ c a (d : Tmp) v w, R (.panic c) (a.put (some d) v) w → R (.panic c) a w)
    (hK : ∀ s a w, Sim Df w0 g0 o0 N s a w → (K s).ok Df P w0 g0 o0 N Q → R .normal a w)
    (hP : ∀ v s a w, s.tm = [] → Sim Df w0 g0 o0 N s a w → Q (.pan v) s → R (.panic [{ v := v, recovered := false }]) a w) :
    ∀ (t : OT) (n : Nat) (listed : Array Bool) (s : St) (a : Act) (w : World), Closed md ops listed → Sim Df w0 g0 o0 N s a w → (aops std ty cs ops.toList K t s).ok Df P w0 g0 o0 N Q →
      (drawOk md ty ops t n listed false = true → wpR P md ops (lateO ty ops) R n listed a w) ∧
      (drawOk md ty ops t n listed true = true → ∀ i ∈ t.heads, ∃ m, n = m + 1 ∧ wpOp P ops R i (fun a' w' => (lateO ty ops i = false → LeB w w') ∧ wpR P md ops (lateO ty ops) R m (listed.setIfInBounds i true) a' w') a w) := by
  intro t
  induction t with
  | nil =>
    intro n listed s a w hC hs hok
    refine ⟨fun hB => ?_, fun hB i hi => by cases hi⟩
    simp only [drawOk, Bool.and_eq_true, beq_iff_eq] at hB
    obtain ⟨⟨rfl, _⟩, h⟩ := hB
    exact ⟨by simpa using h, hK s a w hs hok⟩
  | fork x y ihx ihy =>
    intro n listed s a w hC hs hok
    have both : drawOk md ty ops x n listed true = true → drawOk md ty ops y n listed true = true → ∀ i ∈ (OT.fork x y).heads, ∃ m, n = m + 1 ∧ wpOp P ops R i (fun a' w' => (lateO ty ops i = false → LeB w w') ∧ wpR P md ops (lateO ty ops) R m (listed.setIfInBounds i true) a' w') a w := fun h1 h2 i hi => by
      rcases List.mem_append.1 hi with hi | hi
      · exact (ihx n listed s a w hC hs hok.1).2 h1 i hi
      · exact (ihy n listed s a w hC hs hok.2).2 h2 i hi
    refine ⟨fun hB => ?_, fun hB => ?_⟩
    · simp only [drawOk, Bool.and_eq_true, Bool.false_or] at hB
      obtain ⟨⟨⟨h0, h1⟩, h2⟩, h3⟩ := hB
      have hne : Region.ready md ops listed ≠ [] := by simpa using h0
      have hall : ∀ i ∈ Region.ready md ops listed, i ∈ (OT.fork x y).heads := fun i hi => by
        have := List.all_eq_true.1 h1 i hi
        simpa using this
      obtain ⟨i, hi⟩ := List.exists_mem_of_ne_nil _ hne
      obtain ⟨m, rfl, _⟩ := both h2 h3 i (hall i hi)
      refine ⟨fun h => absurd h hne, fun i hi => ?_⟩
      obtain ⟨m', e, h⟩ := both h2 h3 i (hall i hi)
      cases e; exact h
    · simp only [drawOk, Bool.and_eq_true] at hB
      exact both hB.1.2 hB.2
  | cons i rest ih =>
    intro n listed s a w hC hs hok
    cases ho : ops[i]? with
    | none => simp [aops, Array.getElem?_toList, ho, Tree.ok] at hok
    | some o =>
      -- taken from what may come next
      have loud : ∀ m, i ∈ Region.ready md ops listed → drawOk md ty ops rest m (listed.setIfInBounds i true) false = true →
          wpOp P ops R i (fun a' w' => (lateO ty ops i = false → LeB w w') ∧ wpR P md ops (lateO ty ops) R m (listed.setIfInBounds i true) a' w') a w := fun m hr hBr => by
        unfold wpOp
        simp only [ho]
        rcases guard_sound ho hs hok with ⟨hw, s', hs', h⟩ | ⟨hw, s', hs', h⟩
        · simp only [hw, if_true]
          exact .inl (Oper.wp_mono (fun a' w' hg => by
            obtain ⟨hq, s2, hs2, h2⟩ := hg
            refine ⟨fun hl => hq ?_, (ih m _ s2 a' w' (hC.set hr) hs2 h2).1 hBr⟩
            simpa [lateO, ho] using hl) (op_sound hT hs' (dst_at hd ho) hP h))
        · simp only [hw, Bool.false_eq_true, if_false]
          exact ⟨fun _ => LeB.refl w, (ih m _ _ _ w (hC.set hr) (sim_undef hs' (dst_at hd ho)) h).1 hBr⟩
      refine ⟨fun hB => ?_, fun hB => ?_⟩
      · simp only [drawOk, ho, Bool.and_eq_true, Bool.false_eq_true, if_false, Bool.or_eq_true, beq_iff_eq, bne_iff_ne, ne_eq] at hB
        obtain ⟨⟨hn0, hB⟩, hBr⟩ := hB
        obtain ⟨m, rfl⟩ : ∃ m, n = m + 1 := ⟨n - 1, by omega⟩
        simp only [Nat.add_sub_cancel] at hBr
        rcases hB with hr | ⟨⟨⟨hst, hr⟩, hf⟩, hrd⟩
        · refine ⟨fun h0 => (by rw [hr] at h0; cases h0), fun j hj => ?_⟩
          have hj' := hj
          rw [hr] at hj'
          obtain rfl := List.mem_singleton.1 hj'
          exact loud m hj hBr
        · have hr' : i ∈ Region.ready md ops listed := by simpa using hr
          have hli : lateO ty ops i = false := by
            simp only [lateO, ho, Bool.not_eq_false']
            revert hst
            cases o.op <;> simp only [stillO, quietW, Bool.false_eq_true, false_implies, implies_true]
            case convert src dst x =>
              intro h
              by_cases e : src = dst
              · subst e
                have h : (tyLook src ty).sl = false := by simpa using h
                simp [h]
              · simp [e]
            rename_i c
            obtain ⟨callee, args, tys⟩ := c
            cases callee with
            | builtin b => cases b <;> simp [stillO, quietW]
            | _ => simp [stillO, quietW]
          have hlate : readsM o.op = true → ∀ j oj, ops[j]? = some oj → lateO ty ops j = true → listed.getD j true = false → anc md ops i ops.size j = true := fun hrr j oj hj hl hun => by
            rcases hrd with h | h
            · rw [hrr] at h; simp at h
            · have := List.all_eq_true.1 h j (List.mem_range.2 (Array.getElem?_eq_some_iff.1 hj).1)
              simpa only [hl, hun, Bool.not_true, Bool.false_or] using this
          rcases guard_sound ho hs hok with ⟨hw, s', hs', h⟩ | ⟨hw, s', hs', h⟩
          · obtain ⟨s1, x, hs1, hx, hy⟩ := still_sound hT (w := w) (a := a) hst h
            have hs1 := hs1 _ _ hs'
            obtain ⟨g, M, hS, h0⟩ := hs1.rel
            obtain ⟨v, h1, h2⟩ := hy g M hS
            exact wpR_first ho (Region.noSelect_spec hn) (fun c a w => panic_put hQ c a _ _ w) hli _ listed a w hC hlate (Region.free_spec ho hf) hr' (.inl ⟨hw, fun W hW => h1 W hW⟩)
              ((ih m _ _ _ w (hC.set hr') (sim_put (s := s1) (ob' := s1.ob) hs1 hS h0 M Step.refl (dst_at hd ho) h2) hx).1 hBr)
          · exact wpR_first ho (Region.noSelect_spec hn) (fun c a w => panic_put hQ c a _ _ w) hli _ listed a w hC hlate (Region.free_spec ho hf) hr' (.inr ⟨hw, rfl⟩)
              ((ih m _ _ _ w (hC.set hr') (sim_undef hs' (dst_at hd ho)) h).1 hBr)
      · simp only [drawOk, ho, Bool.and_eq_true, if_true, bne_iff_ne, ne_eq] at hB
        obtain ⟨⟨hn0, hr⟩, hBr⟩ := hB
        obtain ⟨m, rfl⟩ : ∃ m, n = m + 1 := ⟨n - 1, by omega⟩
        simp only [Nat.add_sub_cancel] at hBr
        intro j hj
        obtain rfl := List.mem_singleton.1 hj
        exact ⟨m, rfl, loud m (by simpa using hr) hBr⟩
end
end Go.Proofs.YtcmjijpofkoogaaGreat
namespace Go.Proofs.YtcmjijpofkoogaaGreat
open Go.RowKit Go.Lib
theorem closed_start {md : Region.Mode} {ops : Array Oper} : Closed md ops (Array.replicate ops.size false) := fun j oj hj hl => by
  have : j < ops.size := (Array.getElem?_eq_some_iff.1 hj).1
  simp [this] at hl
section
variable {P : Program} {ty : Tys} {Df : List Deferred} {w0 : World} {g0 : Gh} {o0 : List Ob} {N : Nat} {Q : Ex → St → Prop}
theorem sim_later {s : St} {a : Act} {w w' : World} (hs : Sim Df w0 g0 o0 N s a w) (hb : LeB w w') : Sim Df w0 g0 o0 N s a w' := by
  obtain ⟨g, M, hS, h0⟩ := hs.rel
  have E := Ext.below M hb
  have h1 : Step w g s.ob w' g s.ob := ⟨hb.os, hb.tape, hb.output, hb.size, fun b h _ => hb.block b h, fun b id hG => .inl ⟨id, hG⟩, fun b o h => .inl h, E, Nat.le_refl _⟩
  exact ⟨hs.defers, hs.size, g, M.below hb, fun t => (hS t).ext E, h0.trans h1⟩
theorem aexec_sound (hT : TyOk P ty) (hm : P.follows .mixedOrders = true) {cs : Nat → List AV → List Ob → Option (AV × List Ob)} {ord : Nat → OT} :
    ∀ (c : Code) (K : Ex → St → Tree) (R : Exit → Act → World → Prop) (s : St) (a : Act) (w : World), dstOk N c = true → ordOk .any ty ord c = true →
      (∀ c a (d : Tmp) v w, R (.panic c) (a.put (some d) v) w → R (.panic c) a w) → (∀ e s a w, (∀ v, e = .pan v → s.tm = []) → Sim Df w0 g0 o0 N s a w → (K e s).ok Df P w0 g0 o0 N Q → R e.conv a w) →
      (∀ v s a w, s.tm = [] → Sim Df w0 g0 o0 N s a w → Q (.pan v) s → R (.panic [{ v := v, recovered := false }]) a w) →
      Sim Df w0 g0 o0 N s a w → (aexec std ty cs ord c K s).ok Df P w0 g0 o0 N Q → c.wp P R a w := by
  intro c
  induction c with
  | skip => intro K R s a w _ _ _ hK hP hs hok; exact wp_skip (hK .normal s a w (fun _ h => by cases h) hs hok)
  | region id ops draw =>
    intro K R s a w hd ho hQ hK hP hs hok
    cases draw with
    | false =>
      exact wp_region (aops_sound hT hd (fun s a w hs h => hK .normal s a w (fun _ h => by cases h) hs h) hP _ s a w hs hok)
    | true =>
      simp only [ordOk, if_true, Bool.and_eq_true] at ho
      obtain ⟨h1, h3⟩ := ho
      refine wp_region_any hm (wpAny_of_R (late := lateO ty ops) _ _ _ _ ?_)
      exact (aops_draw hT hd h1 hQ (fun s a w hs h => hK .normal s a w (fun _ h => by cases h) hs h) hP _ _ _ s a _ closed_start (sim_later hs (LeB.drew w)) hok).1 h3
  | seq x y ihx ihy =>
    intro K R s a w hd ho hQ hK hP hs hok
    simp only [dstOk, ordOk, Bool.and_eq_true] at hd ho
    refine wp_seq (ihx _ _ s a w hd.1 ho.1 (fun c a d v w h => hQ c a d v w h) (fun e s a w ht hs h => ?_) (fun v s a w ht hs h => hP v s a w ht hs h) hs hok)
    cases e with
    | normal => exact ihy K R s a w hd.2 ho.2 hQ hK hP hs h
    | exit i => exact hK (.exit i) s a w (fun _ h => by cases h) hs h
    | ret => exact hK .ret s a w (fun _ h => by cases h) hs h
    | pan v => exact hK (.pan v) s a w ht hs h
  | cond c x y ihx ihy =>
    intro K R s a w hd ho hQ hK hP hs hok
    simp only [dstOk, ordOk, Bool.and_eq_true] at hd ho
    unfold aexec at hok
    split at hok
    · rename_i t
      split at hok
      · rename_i hv
        exact wp_cond_true (sim_bool hs hv) (ihx K R s a w hd.1 ho.1 hQ hK hP hs hok)
      · rename_i hv
        exact wp_cond_false (sim_bool hs hv) (ihy K R s a w hd.2 ho.2 hQ hK hP hs hok)
      · rename_i b hv
        obtain ⟨h1, h2⟩ := hok
        have e : ∀ c : Bool, lk t (s.put (some t) (.kb c)).tm = .kb c := fun c => if_pos rfl
        cases b with
        | true =>
          have hs' := sim_known hs hv true rfl
          exact wp_cond_true (sim_bool hs' (e true)) (ihx K R _ a w hd.1 ho.1 hQ hK hP hs' (h1 rfl))
        | false =>
          have hs' := sim_known hs hv false rfl
          exact wp_cond_false (sim_bool hs' (e false)) (ihy K R _ a w hd.2 ho.2 hQ hK hP hs' (h2 rfl))
      · exact hok.elim
    · exact wp_cond_true rfl (ihx K R s a w hd.1 ho.1 hQ hK hP hs hok)
    · exact wp_cond_false rfl (ihy K R s a w hd.2 ho.2 hQ hK hP hs hok)
    · exact hok.elim
  | block id c ih =>
    intro K R s a w hd ho hQ hK hP hs hok
    simp only [dstOk, ordOk] at hd ho
    refine wp_block (ih _ _ s a w hd ho (fun c a d v w h => hQ c a d v w h) (fun e s a w ht hs h => ?_) (fun v s a w ht hs h => hP v s a w ht hs h) hs hok)
    cases e with
    | normal => exact hK .normal s a w (fun _ h => by cases h) hs h
    | ret => exact hK .ret s a w (fun _ h => by cases h) hs h
    | pan v => exact hK (.pan v) s a w ht hs h
    | exit i =>
      show Exit.inBlock id R (.exit i) a w
      simp only [Exit.inBlock]
      simp only at h
      by_cases hi : i = id
      · rw [if_pos hi] at h ⊢
        exact hK .normal s a w (fun _ h => by cases h) hs h
      · rw [if_neg hi] at h ⊢
        exact hK (.exit i) s a w (fun _ h => by cases h) hs h
  | loop c ih =>
    intro K R s a w hd ho hQ hK hP hs hok
    refine wp_mono (hok a w hs) (fun e a' w' h => ?_)
    obtain ⟨e', s', rfl, ht, hs', h'⟩ := h
    exact hK e' s' a' w' ht hs' h'
  | exit i => intro K R s a w _ _ _ hK hP hs hok; exact wp_exit (hK (.exit i) s a w (fun _ h => by cases h) hs hok)
  | ret => intro K R s a w _ _ _ hK hP hs hok; exact wp_ret (hK .ret s a w (fun _ h => by cases h) hs hok)
  | _ => intro K R s a w _ _ _ _ _ _ hok; exact hok.elim
end
end Go.Proofs.YtcmjijpofkoogaaGreat
