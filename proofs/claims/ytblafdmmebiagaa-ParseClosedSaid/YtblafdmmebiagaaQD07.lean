/-
  Parts of the proof, joined: Av Aw Ty Ax Ay Az Da Kid KidB TagA TgQ Bt Db Eq Bl. Conditions: as each theorem says.
-/
import Derived.Test.YtblafdmmebiagaaQD05
import Derived.Laws.Sem
import Derived.Test.YtblafdmmebiagaaProg
import Derived.Shelf.Abstract
import Derived.Laws.StructEq
import Derived.Test.YtblafdmmebiagaaQD01
import Derived.WideShapes
namespace Go.Proofs.Ytblafdmmebiagaa
open Go.RowKit Go.Lib
def ent : Nat → List AV → List (Nat × AV)
  | _, [] => []
  | k, x :: r => (k, x) :: ent (k + 1) r
theorem lk_ent (t : Nat) : ∀ (l : List AV) (k : Nat), lk t (ent k l) = if k ≤ t then l.getD (t - k) .dead else .dead
  | [], k => by simp [ent, lk]
  | x :: r, k => by
    simp only [ent, lk]
    by_cases h : t = k
    · subst h; simp
    · rw [if_neg h, lk_ent t r (k + 1)]
      by_cases h2 : k ≤ t
      · have e : t - k = (t - (k + 1)) + 1 := by omega
        rw [if_pos (by omega), if_pos h2, e, List.getD_cons_succ]
      · rw [if_neg (by omega), if_neg h2]
def resSem (tmps : Array Value) (rv : ResultVar) : Sem Value := match rv with
  | .tmp t => pure (tmps.getD t undef)
  | .cell a t => do loadVar t (← asAddr (tmps.getD a undef))
theorem results_eq (fn : Func) (tmps : Array Value) : results fn tmps = (do let vs ← fn.results.mapM (resSem tmps); pure (if h : vs.size = 1 then vs[0] else .tuple vs)) := by
  unfold results
  congr 1
section
variable {P : Program} {ty : Tys} {w0 w : World} {g0 g : Gh} {o0 : List Ob} {N : Nat} {s : St} {a : Act}
theorem res_one (hT : TyOk P ty) (M : Mem w g s.ob) (hS : Slots w g s a) {rv : ResultVar} {x : AV} (h : resOf ty s rv = some x) :
    ∃ v, Sem.run P (resSem a.tmps rv) w = .ok v w ∧ ARel w g s.ob v x := by
  cases rv with
  | tmp t =>
    refine ⟨a.tmps.getD t undef, rfl, ?_⟩
    have hr := hS t
    simp only [resOf] at h
    split at h
    · rename_i b hb
      obtain rfl : AV.val (.bool b) = x := by simpa using h
      rw [hb] at hr
      have e : a.tmps.getD t undef = .bool b := hr
      rw [e]
      exact PRel.to (.val _ rfl)
    · cases h
    · obtain rfl : lk t s.tm = x := by simpa using h
      exact hr
  | cell b T =>
    simp only [resOf] at h
    split at h
    · rename_i cs hcs
      by_cases hk : (tyLook T ty).ok = true ∧ (if (tyLook T ty).agg then (tyLook T ty).size else 1) ≤ cs.length
      · rw [if_pos hk] at h
        cases h
        obtain ⟨bl, of, hv, hc⟩ := cellsAt_rel M (hS b) hcs
        obtain ⟨v, h1, h2⟩ := load_cells (g := g) hT hk.1 hc hk.2
        refine ⟨v, ?_, h2⟩
        have h3 := h1 w (LeB.refl w)
        show (asAddr (a.tmps.getD b undef) >>= fun p => loadVar T p).run P w = _
        rw [hv]
        simpa [asAddr] using h3
      · rw [if_neg hk] at h; cases h
    · cases h
theorem res_list (hT : TyOk P ty) (M : Mem w g s.ob) (hS : Slots w g s a) : ∀ (rs : List ResultVar) (xs : List AV), allSome (rs.map (resOf ty s)) = some xs →
    ∃ vs, Sem.run P (rs.mapM (resSem a.tmps)) w = .ok vs w ∧ vs.length = xs.length ∧
      ∀ (j : Nat) v x, vs[j]? = some v → xs[j]? = some x → ARel w g s.ob v x
  | [], xs, h => by
    obtain rfl : [] = xs := by simpa [allSome] using h
    exact ⟨[], rfl, rfl, fun j v x h => by simp at h⟩
  | rv :: rs, xs, h => by
    cases h1 : resOf ty s rv with
    | none => simp [allSome, h1] at h
    | some x =>
      simp only [List.map_cons, h1, allSome, Option.map_eq_some_iff] at h
      obtain ⟨ys, h2, rfl⟩ := h
      obtain ⟨v, hv, hr⟩ := res_one hT M hS h1
      obtain ⟨vs, hvs, hl, hrs⟩ := res_list hT M hS rs ys h2
      refine ⟨v :: vs, ?_, by simp [hl], fun j y u hy hu => ?_⟩
      · simp only [List.mapM_cons, Sem.run_bind, hv, hvs, Result.andThen_ok, Sem.run_pure]
      · cases j with
        | zero =>
          obtain rfl : v = y := by simpa using hy
          obtain rfl : x = u := by simpa using hu
          exact hr
        | succ j => exact hrs j y u (by simpa using hy) (by simpa using hu)
theorem result_sound (hT : TyOk P ty) {keep : Bool} {fn : Func} (hs : Sim w0 g0 o0 N s a w) {res : AV} {ob' : List Ob} (h : resultA std ty keep fn.results.toList s = some (res, ob')) :
    ∃ v g', (results fn a.tmps).run P w = .ok v w ∧ Mem w g' ob' ∧ ARel w g' ob' v res ∧ Step w0 g0 o0 w g' ob' := by
  obtain ⟨g, M, hS, h0⟩ := hs.rel
  unfold resultA at h
  cases hx : allSome (fn.results.toList.map (resOf ty s)) with
  | none => rw [hx] at h; cases h
  | some xs =>
    rw [hx] at h
    obtain ⟨vs, hvs, hl, hrs⟩ := res_list hT M hS _ _ hx
    have hrun : (results fn a.tmps).run P w = .ok (if h : vs.toArray.size = 1 then vs.toArray[0] else .tuple vs.toArray) w := by
      rw [results_eq, Array.mapM_eq_mapM_toList, Sem.run_bind]
      have : (List.toArray <$> (fn.results.toList.mapM (resSem a.tmps))).run P w = .ok vs.toArray w := by
        rw [map_eq_pure_bind, Sem.run_bind, hvs]; rfl
      rw [this]; rfl
    have many : xs.length ≠ 1 → (eachM (frz std keep 9) s.ob xs).map (fun (ys, ob) => (AV.tup ys, ob)) = some (res, ob') →
        ∃ v g', (results fn a.tmps).run P w = .ok v w ∧ Mem w g' ob' ∧ ARel w g' ob' v res ∧ Step w0 g0 o0 w g' ob' := fun hne h => by
      simp only [Option.map_eq_some_iff] at h
      obtain ⟨⟨ys, ob1⟩, h1, h2⟩ := h
      cases h2
      have hL : ARelL w g s.ob vs xs := ⟨hl, fun j v x hv hx => (hrs j v x hv hx).to1 (each_live _ _ _ _ h1 _ (List.mem_of_getElem? hx))⟩
      obtain ⟨g', M', E', R', L'⟩ := frzL _ _ g s.ob ys ob1 M hL h1
      refine ⟨_, g', hrun, M', ?_, h0.trans (Step.ghost E' L')⟩
      have : ¬ vs.toArray.size = 1 := by simp; omega
      rw [dif_neg this]
      exact ⟨vs.toArray, rfl, by simpa using R'.1, fun j y u hy hu => R'.2 j y u (by simpa using hy) hu⟩
    cases xs with
    | nil => exact many (by simp) h
    | cons x r =>
      cases r with
      | cons x' r' => exact many (by simp) h
      | nil =>
        obtain ⟨v, rfl⟩ : ∃ v, vs = [v] := List.length_eq_one_iff.1 (by simpa using hl)
        obtain ⟨g', M', E', R', L'⟩ := frzTop M (hrs 0 v x rfl rfl) h
        exact ⟨v, g', hrun, M', R', h0.trans (Step.ghost E' L')⟩
end
def leC (x y : AV) : Prop := x = y ∨ (x = .val (.slice none 0 0) ∧ ∃ sz, y = .slc sz []) ∨ (y = .opt x ∧ isPtr x) ∨ x = .opt y
def leL : List AV → List AV → Prop
  | [], [] => True
  | x :: r, y :: r' => leC x y ∧ leL r r'
  | _, _ => False
def leA1 : AV → AV → Prop
  | .agg xs, .agg ys => leL xs ys
  | .agg _, _ => False
  | .tup _, _ => False
  | _, .agg _ => False
  | _, .tup _ => False
  | x, y => leC x y
def leT : List AV → List AV → Prop
  | [], [] => True
  | x :: r, y :: r' => leA1 x y ∧ leT r r'
  | _, _ => False
def leA (x y : AV) : Prop := match x with
  | .tup xs => (match y with
    | .tup ys => leT xs ys
    | _ => False)
  | x => leA1 x y
section
variable {w : World} {g : Gh} {ob : List Ob}
theorem leC_rel {v : Value} {x y : AV} (h : ARel0 w g ob v x) (hl : leC x y) : ARel0 w g ob v y := by
  rcases hl with rfl | ⟨rfl, sz, rfl⟩ | ⟨rfl, hp⟩ | rfl
  · exact h
  · cases (show v = _ from ARel.valEq (g := g) (w := w) (ob := ob) h)
    exact PRel.nil sz
  · have : PRel w g.A v x := by
      cases x with
      | val _ => exact h
      | ref _ => exact h
      | opt _ => exact h
      | _ => exact (show False from hp).elim
    exact PRel.opt _ _ this hp
  · exact (PRel.ofOpt (show PRel w g.A v (.opt y) from h)).1.to0
theorem leL_rel : ∀ {vs : List Value} {xs ys : List AV}, ARelC w g ob vs xs → leL xs ys → ARelC w g ob vs ys
  | vs, [], [], h, _ => h
  | _, [], _ :: _, _, hl => hl.elim
  | _, _ :: _, [], _, hl => hl.elim
  | [], x :: r, y :: r', h, _ => absurd h.1 (by simp)
  | v :: vs, x :: r, y :: r', h, hl => by
    have h1 := h.2 0 v x rfl rfl
    have h2 : ARelC w g ob vs r' := leL_rel (xs := r) ⟨by simpa using h.1, fun j a b ha hb => h.2 (j + 1) a b (by simpa using ha) (by simpa using hb)⟩ hl.2
    refine ⟨by simp [h2.1], fun j a b ha hb => ?_⟩
    cases j with
    | zero =>
      obtain rfl : v = a := by simpa using ha
      obtain rfl : y = b := by simpa using hb
      exact ⟨leC_rel h1.1 hl.1, h1.2⟩
    | succ j => exact h2.2 j a b (by simpa using ha) (by simpa using hb)
theorem ARel1.to0 {v : Value} {x : AV} (h : ARel1 w g ob v x) (hn : ∀ cs, x ≠ .agg cs) : ARel0 w g ob v x := by cases x <;> first | exact h | exact absurd rfl (hn _)
theorem leA1_rel {v : Value} {x y : AV} (h : ARel1 w g ob v x) (hl : leA1 x y) : ARel1 w g ob v y := by
  cases x with
  | agg xs =>
    cases y with
    | agg ys => obtain ⟨vs, rfl, h⟩ := h; exact ⟨vs, rfl, leL_rel h hl⟩
    | _ => exact (show False from hl).elim
  | tup _ => exact (show False from hl).elim
  | _ => cases y <;> first | exact (show False from hl).elim | exact (leC_rel (h.to0 (fun cs h => by cases h)) hl).to1
theorem leA_rel {v : Value} {x y : AV} (h : ARel w g ob v x) (hl : leA x y) : ARel w g ob v y := by
  cases x with
  | tup xs =>
    cases y with
    | tup ys =>
      obtain ⟨vs, rfl, h1, h2⟩ := h
      have key : ∀ (xs ys : List AV) (vs : List Value), leT xs ys → vs.length = xs.length → (∀ (j : Nat) y u, vs[j]? = some y → xs[j]? = some u → ARel1 w g ob y u) → vs.length = ys.length ∧ ∀ (j : Nat) y u, vs[j]? = some y → ys[j]? = some u → ARel1 w g ob y u := by
        intro xs
        induction xs with
        | nil =>
          intro ys vs hl hn hr
          cases ys with
          | nil => exact ⟨hn, hr⟩
          | cons _ _ => exact (show False from hl).elim
        | cons x r ih =>
          intro ys vs hl hn hr
          cases ys with
          | nil => exact (show False from hl).elim
          | cons y r' =>
            cases vs with
            | nil => simp at hn
            | cons v vs =>
              obtain ⟨h3, h4⟩ := ih r' vs hl.2 (by simpa using hn) (fun j a b ha hb => hr (j + 1) a b (by simpa using ha) (by simpa using hb))
              refine ⟨by simp [h3], fun j a b ha hb => ?_⟩
              cases j with
              | zero =>
                obtain rfl : v = a := by simpa using ha
                obtain rfl : y = b := by simpa using hb
                exact leA1_rel (hr 0 v x rfl rfl) hl.1
              | succ j => exact h4 j a b (by simpa using ha) (by simpa using hb)
      obtain ⟨h3, h4⟩ := key xs ys vs.toList hl (by simpa using h1) (fun j a b ha hb => h2 j a b (by simpa using ha) hb)
      exact ⟨vs, rfl, by simpa using h3, fun j a b ha hb => h4 j a b (by simpa using ha) hb⟩
    | _ => exact (show False from hl).elim
  | _ => exact (leA1_rel (h.to1' (fun xs h => by cases h)) (show leA1 _ y from hl)).to
end
def renTs (ob ob' : List Ob) (ρ : List (Option Nat)) : List AV → List AV → Option Eqs
  | [], [] => some []
  | x :: r, x' :: r' => both (ren1 ob ob' ρ x x') (renTs ob ob' ρ r r')
  | _, _ => none
def renR (ob ob' : List Ob) (ρ : List (Option Nat)) (x x' : AV) : Option Eqs := match x with
  | .tup xs => (match x' with
    | .tup ys => renTs ob ob' ρ xs ys
    | _ => none)
  | x => ren1 ob ob' ρ x x'
section
variable {w w0 : World} {g g0 : Gh} {ob ob' o0 : List Ob} {ρ : List (Option Nat)}
theorem ren1_notup {x x' : AV} {l : Eqs} (he : ren1 ob ob' ρ x x' = some l) : ∀ xs, x' ≠ .tup xs := by
  rintro xs rfl
  cases he
theorem renTs_rel (hF : Fits ob ob' ρ) (ho : onceR ρ = true) : ∀ (xs ys : List AV) (vs : List Value) (l : Eqs), renTs ob ob' ρ xs ys = some l → AllEq l → vs.length = xs.length → (∀ (j : Nat) y u, vs[j]? = some y → xs[j]? = some u → ARel1 w g ob y u) →
    vs.length = ys.length ∧ ∀ (j : Nat) y u, vs[j]? = some y → ys[j]? = some u → ARel1 w (g.ren ρ) ob' y u
  | [], [], vs, _, _, _, hn, _ => ⟨hn, fun j y u _ h => by simp at h⟩
  | [], _ :: _, _, _, h, _, _, _ => by cases h
  | _ :: _, [], _, _, h, _, _, _ => by cases h
  | x :: r, y :: r', vs, l, h, hl, hn, hr => by
    cases vs with
    | nil => simp at hn
    | cons v vs =>
      obtain ⟨⟨l1, h1, hl1⟩, l2, h2, hl2⟩ := both_some h hl
      obtain ⟨h3, h4⟩ := renTs_rel hF ho r r' vs l2 h2 hl2 (by simpa using hn) (fun j a b ha hb => hr (j + 1) a b (by simpa using ha) (by simpa using hb))
      refine ⟨by simp [h3], fun j a b ha hb => ?_⟩
      cases j with
      | zero =>
        obtain rfl : v = a := by simpa using ha
        obtain rfl : y = b := by simpa using hb
        exact (ren1_rel hF ho (hr 0 v x rfl rfl).to h1 hl1).to1' (ren1_notup h1)
      | succ j => exact h4 j a b (by simpa using ha) (by simpa using hb)
theorem renR_rel (hF : Fits ob ob' ρ) (ho : onceR ρ = true) {v : Value} {x x' : AV} {l : Eqs} (h : ARel w g ob v x) (he : renR ob ob' ρ x x' = some l) (hl : AllEq l) : ARel w (g.ren ρ) ob' v x' := by
  cases x with
  | tup xs =>
    cases x' with
    | tup ys =>
      obtain ⟨vs, rfl, h1, h2⟩ := h
      obtain ⟨h3, h4⟩ := renTs_rel hF ho xs ys vs.toList l he hl (by simpa using h1) (fun j a b ha hb => h2 j a b (by simpa using ha) hb)
      exact ⟨vs, rfl, by simpa using h3, fun j a b ha hb => h4 j a b (by simpa using ha) hb⟩
    | _ => cases he
  | _ => exact ren1_rel hF ho h he hl
theorem step_ren (hF : Fits ob ob' ρ) (ho : onceR ρ = true) (hh : headR o0 ob ob' ρ = true) (hn : o0.length ≤ ρ.length) (h0 : Step w0 g0 o0 w g ob) : Step w0 g0 o0 w (g.ren ρ) ob' := by
  have head : ∀ j, j < o0.length → ρ[j]? = some (some j) := fun j hj => by
    have := List.all_eq_true.1 hh j (List.mem_range.2 hj)
    simp only [Bool.and_eq_true, beq_iff_eq] at this
    exact this.1
  refine ⟨h0.os, h0.tape, h0.output, h0.size, h0.keep, fun b id hG => ?_, h0.imm, ⟨h0.ext.A, fun id hid => ?_, fun id hb => ?_, fun id hb => ?_, fun id et sz fz e xs hr => ?_, fun b id hG hs => ?_⟩, ?_⟩
  · obtain ⟨i, _, h3⟩ := ren_Gof hG
    exact h0.own b i h3
  · rw [ren_loc (head id hid)]; exact h0.ext.loc id hid
  · exact hF.isB (head id (isBox_lt hb)) (h0.ext.isb id hb)
  · exact hF.isI (head id (isIt_lt hb)) (h0.ext.isi id hb)
  · have hid := lt_of_some hr
    obtain ⟨fz1, e1, xs1, h3, h4, h5⟩ := h0.ext.row id et sz fz e xs hr
    obtain ⟨fz2, e2, h6, _⟩ := hF.row (head id hid) h3
    have he : e1 = e2 ∨ e < e2 := by
      have := List.all_eq_true.1 hh id (List.mem_range.2 hid)
      simp only [Bool.and_eq_true, hr, h3, h6, beq_iff_eq, Bool.or_eq_true, decide_eq_true_eq] at this
      exact this.2
    rcases he with he | he
    rotate_left
    · exact ⟨fz2, e2, xs1, h6, by omega, fun hee => by omega⟩
    subst he
    exact ⟨fz2, e1, xs1, h6, h4, fun hee => ⟨(h5 hee).1, fun b hb => ⟨ren_G ho (head id hid) ((h5 hee).2 b hb).1, ((h5 hee).2 b hb).2⟩⟩⟩
  · obtain ⟨et, sz, fz, fz', e, xs, xs', h3, h4⟩ := hs
    have hid := lt_of_some h3
    obtain ⟨fz1, e1, xs1, h5, h6, h7⟩ := h0.ext.row id et sz fz e xs h3
    obtain ⟨fz2, e2, h8, _⟩ := hF.row (head id hid) h5
    rw [h8] at h4
    obtain ⟨rfl, rfl, rfl⟩ : fz2 = fz' ∧ e2 = e ∧ xs1 = xs' := by simpa using h4
    have he : e1 = e2 := by
      have := List.all_eq_true.1 hh id (List.mem_range.2 hid)
      simp only [Bool.and_eq_true, h3, h5, h8, beq_iff_eq, Bool.or_eq_true, decide_eq_true_eq] at this
      omega
    subst he
    obtain ⟨h9, h10⟩ := h0.ext.sub b id hG ⟨_, _, _, _, _, _, _, h3, h5⟩
    have h11 := ren_sub (g := g) ho (head id hid) ((h7 rfl).2 b hG).1
    exact ⟨h11.trans h9, h10⟩
  · rw [← hF.1]; exact hn
end
def FinOk (o0 : List Ob) (res : AV) (ob' : List Ob) (_ : Ex) (s : St) : Prop := match s.tm with
  | [(_, r)] => ∃ ρ r' l, onceR ρ = true ∧ headR o0 s.ob ob' ρ = true ∧ o0.length ≤ ρ.length ∧ both (renR s.ob ob' ρ r r') (renOs s.ob ob' ρ ρ ob') = some l ∧ AllEq l ∧ leA r' res
  | _ => False
def purR : AV → Bool
  | .tup xs => xs.all AV.pur
  | x => x.pur
theorem ren0_pure {ob : List Ob} {ρ : List (Option Nat)} {x : AV} (h : x.pur0 = true) : ∃ l, ren0 ob [] ρ x x = some l ∧ AllEq l := by
  cases x with
  | val v => cases v <;> exact ⟨_, rfl, rfl, trivial⟩
  | slc _ _ => exact ⟨_, rfl, rfl, trivial⟩
  | ref _ => exact ⟨_, rfl, rfl, trivial⟩
  | opt _ => exact ⟨_, rfl, rfl, trivial⟩
  | _ => cases h
theorem ren1_pure {ob : List Ob} {ρ : List (Option Nat)} {x : AV} (h : x.pur = true) : ∃ l, ren1 ob [] ρ x x = some l ∧ AllEq l := by
  cases x with
  | agg cs =>
    have key : ∀ cs : List AV, cs.all AV.pur0 = true → ∃ l, renL ob [] ρ cs cs = some l ∧ AllEq l := by
      intro cs
      induction cs with
      | nil => intro _; exact ⟨[], rfl, trivial⟩
      | cons x r ih =>
        intro h
        simp only [List.all_cons, Bool.and_eq_true] at h
        obtain ⟨l1, h1, h2⟩ := ren0_pure (ob := ob) (ρ := ρ) h.1
        obtain ⟨l2, h3, h4⟩ := ih h.2
        exact ⟨l1 ++ l2, by simp only [renL, h1, h3, both], allEq_append.2 ⟨h2, h4⟩⟩
    exact key cs h
  | val v => exact ren0_pure (ob := ob) (ρ := ρ) (x := .val v) h
  | slc a b => exact ren0_pure (ob := ob) (ρ := ρ) (x := .slc a b) h
  | ref a => exact ren0_pure (ob := ob) (ρ := ρ) (x := .ref a) h
  | opt a => exact ren0_pure (ob := ob) (ρ := ρ) (x := .opt a) h
  | _ => cases h
theorem FinOk.pure {res r : AV} {k : Nat} {ob : List Ob} {e : Ex} (hp : purR r = true) (hl : leA r res) : FinOk [] res [] e ⟨[(k, r)], ob⟩ := by
  have hr : ∃ l, renR ob [] [] r r = some l ∧ AllEq l := by
    cases r with
    | tup xs =>
      have key : ∀ xs : List AV, xs.all AV.pur = true → ∃ l, renTs ob [] [] xs xs = some l ∧ AllEq l := by
        intro xs
        induction xs with
        | nil => intro _; exact ⟨[], rfl, trivial⟩
        | cons x r ih =>
          intro h
          simp only [List.all_cons, Bool.and_eq_true] at h
          obtain ⟨l1, h1, h2⟩ := ren1_pure (ob := ob) (ρ := []) h.1
          obtain ⟨l2, h3, h4⟩ := ih h.2
          exact ⟨l1 ++ l2, by simp only [renTs, h1, h3, both], allEq_append.2 ⟨h2, h4⟩⟩
      exact key xs hp
    | val a => exact ren1_pure (ob := ob) (ρ := []) (x := .val a) hp
    | slc a b => exact ren1_pure (ob := ob) (ρ := []) (x := .slc a b) hp
    | agg a => exact ren1_pure (ob := ob) (ρ := []) (x := .agg a) hp
    | ref a => exact ren1_pure (ob := ob) (ρ := []) (x := .ref a) hp
    | opt a => exact ren1_pure (ob := ob) (ρ := []) (x := .opt a) hp
    | _ => cases hp
  obtain ⟨l, h1, h2⟩ := hr
  exact ⟨[], r, l, rfl, rfl, Nat.le_refl _, by simp only [h1, renOs, both, List.append_nil], h2, hl⟩
theorem bcall_any {P : Program} {ty : Tys} (keep : Bool) (hT : TyOk P ty) (hm : P.follows .mixedOrders = true) {cs : Nat → List AV → List Ob → Option (AV × List Ob)} {ord : Nat → OT}
    {f : Nat} {fn : Func} {c : Code} {args : List AV} {ob : List Ob} {res : AV} {ob' : List Ob} (hf : P.funcs[f]? = some fn) (hb : fn.body = some c) (he : ∀ vs w, (callFunc f vs).run P w = .ok (.enter f vs) w)
    (hn : args.length ≤ fn.ntmps) (hd : dstOk fn.ntmps c = true) (ho : ordOk .any ty ord c = true)
    (h : ∀ w0 g0, (aexec std ty cs ord c (endK std ty keep fn.results.toList) ⟨ent 0 args, ob⟩).ok P w0 g0 ob fn.ntmps (FinOk ob res ob')) : BCall P f args ob res ob' := by
  refine ⟨he, fun w g vs M hL => calls_of_wp hf hb ?_⟩
  have hlen : vs.length = args.length := hL.1
  refine aexec_sound (w0 := w) (g0 := g) (o0 := ob) (N := fn.ntmps) (Q := FinOk ob res ob') hT hm c _ _ ⟨ent 0 args, ob⟩ _ w hd ho (fun c a d v w h => h) (fun e s a w' hs hq => ?_) ⟨rfl, ?_, g, M, fun t => ?_, Step.refl⟩ (h w g)
  · have fin : ∀ {T : Tree}, T = (match resultA std ty keep fn.results.toList s with | some (r, ob) => .leaf .ret ⟨[(0, r)], ob⟩ | none => .stuck 71) → T.ok P w g ob fn.ntmps (FinOk ob res ob') →
        a.defers = [] ∧ ∃ v, (results fn a.tmps).run P w' = .ok v w' ∧ ∃ v' g', Ending.returned v = .returned v' ∧ Mem w' g' ob' ∧ ARel w' g' ob' v' res ∧ Step w g ob w' g' ob' := fun hT' hq => by
      cases hr : resultA std ty keep fn.results.toList s with
      | none => rw [hr] at hT'; subst hT'; exact (show False from hq).elim
      | some q =>
        obtain ⟨r, ob1⟩ := q
        rw [hr] at hT'
        subst hT'
        obtain ⟨ρ, r', l, h1, h2, h3, h4, h5, h6⟩ := (show FinOk ob res ob' .ret ⟨[(0, r)], ob1⟩ from hq)
        obtain ⟨⟨l1, e1, a1⟩, l2, e2, a2⟩ := both_some h4 h5
        have hF : Fits ob1 ob' ρ := renOs_get _ _ _ e2 a2
        obtain ⟨v, g', k1, k2, k3, k4⟩ := result_sound hT hs hr
        exact ⟨hs.defers, v, k1, v, g'.ren ρ, rfl, k2.ren hF h1, leA_rel (renR_rel hF h1 k3 e1 a1) h6, step_ren hF h1 h2 h3 k4⟩
    cases e with
    | normal => exact fin rfl hq
    | ret => exact fin rfl hq
    | exit i => exact (show False from hq).elim
  · simp; omega
  · show ARel w g ob _ (lk t (ent 0 args))
    rw [lk_ent]
    simp only [Nat.zero_le, if_true, Nat.sub_zero]
    by_cases ht : t < args.length
    · rw [List.getD_eq_getElem?_getD, List.getElem?_eq_getElem ht, Option.getD_some]
      have e : (vs.toArray ++ Array.replicate (fn.ntmps - vs.toArray.size) undef).getD t undef = vs[t]'(by omega) := by
        rw [Array.getD_eq_getD_getElem?, Array.getElem?_append_left (by simp; omega)]
        simp [show t < vs.length by omega]
      rw [e]
      exact (hL.2 t _ _ (List.getElem?_eq_getElem (by omega)) (List.getElem?_eq_getElem ht)).to
    · rw [List.getD_eq_getElem?_getD, List.getElem?_eq_none (by omega)]
      trivial
theorem bcall_of {P : Program} {ty : Tys} (hT : TyOk P ty) (hm : P.follows .mixedOrders = true) {cs : Nat → List AV → List Ob → Option (AV × List Ob)} {ord : Nat → OT}
    {f : Nat} {fn : Func} {c : Code} {args : List AV} {ob : List Ob} {res : AV} {ob' : List Ob} (hf : P.funcs[f]? = some fn) (hb : fn.body = some c) (he : ∀ vs w, (callFunc f vs).run P w = .ok (.enter f vs) w)
    (hn : args.length ≤ fn.ntmps) (hd : dstOk fn.ntmps c = true) (ho : ordOk .any ty ord c = true)
    (h : ∀ w0 g0, (aexec std ty cs ord c (endK std ty false fn.results.toList) ⟨ent 0 args, ob⟩).ok P w0 g0 ob fn.ntmps (FinOk ob res ob')) : BCall P f args ob res ob' :=
  bcall_any false hT hm hf hb he hn hd ho h
theorem bcall_new {P : Program} {ty : Tys} (hT : TyOk P ty) (hm : P.follows .mixedOrders = true) {cs : Nat → List AV → List Ob → Option (AV × List Ob)} {ord : Nat → OT}
    {f : Nat} {fn : Func} {c : Code} {args : List AV} {ob : List Ob} {res : AV} {ob' : List Ob} (hf : P.funcs[f]? = some fn) (hb : fn.body = some c) (he : ∀ vs w, (callFunc f vs).run P w = .ok (.enter f vs) w)
    (hn : args.length ≤ fn.ntmps) (hd : dstOk fn.ntmps c = true) (ho : ordOk .any ty ord c = true)
    (h : ∀ w0 g0, (aexec std ty cs ord c (endK std ty true fn.results.toList) ⟨ent 0 args, ob⟩).ok P w0 g0 ob fn.ntmps (FinOk ob res ob')) : BCall P f args ob res ob' :=
  bcall_any true hT hm hf hb he hn hd ho h
end Go.Proofs.Ytblafdmmebiagaa
namespace Go.Proofs.Ytblafdmmebiagaa
open Go.RowKit Go.Lib
def tiB (P : Program) (x : TI) : Bool := x.zero.length == x.size && (x.agg || x.size == 1) && decide (x.bytes ≤ 140000) && x.flds.all (fun f => (P.info? f.2).isSome) && x.zero.all (·.oneCell') && x.ok
theorem TiOk.of {P : Program} {t : Nat} {x : TI} (h1 : (P.info? t).map (fun i => (i.size, i.bytes, i.zero.map (·.cells.toList))) = some (x.size, x.bytes, some x.zero))
    (h2 : (P.underlying t).map shapeOf = some (x.agg, x.elem, x.flds, x.kind, x.sl, x.kd)) (hb : tiB P x = true) : TiOk P t x := by
  simp only [tiB, Bool.and_eq_true, Bool.or_eq_true, beq_iff_eq, decide_eq_true_eq] at hb
  obtain ⟨⟨⟨⟨⟨b1, b2⟩, b4⟩, b5⟩, b6⟩, b7⟩ := hb
  exact ⟨h1, h2, b1, fun h => b2.resolve_left (by rw [h]; simp), b4, b5, b6, b7⟩
theorem TyOk.nil {P : Program} : TyOkL P [] := fun _ _ h => by cases h
theorem TyOk.cons {P : Program} {t : Nat} {x : TI} {r : List (Nat × TI)} (h : TiOk P t x) (hr : TyOkL P r) : TyOkL P ((t, x) :: r) := fun u y hu => by
  rcases List.mem_cons.1 hu with h1 | h1
  · cases h1; exact h
  · exact hr u y h1
end Go.Proofs.Ytblafdmmebiagaa
namespace Go.Proofs.Ytblafdmmebiagaa
def tysL : List (Nat × TI) := [(1, ⟨1, false, 0, [], [.nilFunc], none, 8, false, 7, true⟩),
  (2, ⟨1, false, 0, [], [.int .i64 0], some .i64, 8, false, 3, true⟩),
  (3, ⟨1, false, 0, [], [.int .i64 0], some .i64, 8, false, 3, true⟩),
  (4, ⟨1, false, 0, [], [.bool false], none, 1, false, 5, true⟩),
  (5, ⟨1, false, 0, [], [.int .u8 0], some .u8, 1, false, 3, true⟩),
  (6, ⟨1, false, 0, [], [.int .u8 0], some .u8, 1, false, 3, true⟩),
  (7, ⟨4, true, 0, [(0, 2), (1, 3), (2, 4), (3, 6)], [.int .i64 0, .int .i64 0, .bool false, .int .u8 0], none, 24, false, 1, true⟩),
  (8, ⟨4, true, 0, [(0, 2), (1, 3), (2, 4), (3, 6)], [.int .i64 0, .int .i64 0, .bool false, .int .u8 0], none, 24, false, 1, true⟩),
  (9, ⟨1, false, 0, [], [.string ⟨#[]⟩], none, 16, false, 6, true⟩),
  (10, ⟨1, false, 0, [], [.string ⟨#[]⟩], none, 16, false, 6, true⟩),
  (11, ⟨1, false, 0, [], [.string ⟨#[]⟩], none, 16, false, 6, true⟩),
  (12, ⟨1, false, 0, [], [.int .u64 0], some .u64, 8, false, 3, true⟩),
  (13, ⟨2, true, 0, [(0, 9), (1, 12)], [.string ⟨#[]⟩, .int .u64 0], none, 24, false, 1, true⟩),
  (14, ⟨2, true, 0, [(0, 9), (1, 12)], [.string ⟨#[]⟩, .int .u64 0], none, 24, false, 1, true⟩),
  (15, ⟨1, false, 0, [], [.pointer none], none, 8, false, 4, true⟩),
  (16, ⟨1, false, 0, [], [.pointer none], none, 8, false, 4, true⟩),
  (17, ⟨1, false, 0, [], [.pointer none], none, 8, false, 4, true⟩),
  (18, ⟨1, true, 0, [(0, 17)], [.pointer none], none, 8, false, 1, true⟩),
  (19, ⟨1, true, 0, [(0, 17)], [.pointer none], none, 8, false, 1, true⟩),
  (21, ⟨1, false, 0, [], [.int .i32 0], some .i32, 4, false, 3, true⟩),
  (22, ⟨1, false, 5, [], [.slice none 0 0], none, 24, true, 2, true⟩),
  (23, ⟨1, false, 0, [], [.nilFunc], none, 8, false, 7, true⟩),
  (24, ⟨1, false, 21, [], [.slice none 0 0], none, 24, true, 2, true⟩),
  (25, ⟨1, false, 3, [], [.slice none 0 0], none, 24, true, 2, true⟩),
  (26, ⟨4, true, 0, [(0, 3), (1, 3), (2, 24), (3, 25)], [.int .i64 0, .int .i64 0, .slice none 0 0, .slice none 0 0], none, 64, false, 1, true⟩),
  (27, ⟨4, true, 0, [(0, 3), (1, 3), (2, 24), (3, 25)], [.int .i64 0, .int .i64 0, .slice none 0 0, .slice none 0 0], none, 64, false, 1, true⟩),
  (28, ⟨1, false, 0, [], [.pointer none], none, 8, false, 4, true⟩),
  (29, ⟨1, false, 47, [], [.slice none 0 0], none, 24, true, 2, true⟩),
  (30, ⟨7, true, 0, [(0, 27), (4, 28), (5, 3), (6, 29)], [.int .i64 0, .int .i64 0, .slice none 0 0, .slice none 0 0, .pointer none, .int .i64 0, .slice none 0 0], none, 104, false, 1, true⟩),
  (31, ⟨7, true, 0, [(0, 27), (4, 28), (5, 3), (6, 29)], [.int .i64 0, .int .i64 0, .slice none 0 0, .slice none 0 0, .pointer none, .int .i64 0, .slice none 0 0], none, 104, false, 1, true⟩),
  (32, ⟨1, false, 0, [], [.nilFunc], none, 8, false, 7, true⟩),
  (33, ⟨1, false, 0, [], [.nilFunc], none, 8, false, 7, true⟩),
  (34, ⟨1, false, 0, [], [.nilFunc], none, 8, false, 7, true⟩),
  (35, ⟨1, false, 0, [], [.nilFunc], none, 8, false, 7, true⟩),
  (36, ⟨1, false, 0, [], [.nilFunc], none, 8, false, 7, true⟩),
  (37, ⟨1, false, 40, [], [.slice none 0 0], none, 24, true, 2, true⟩),
  (38, ⟨1, false, 0, [], [.pointer none], none, 8, false, 4, true⟩),
  (39, ⟨5, true, 0, [(0, 28), (1, 3), (2, 3), (3, 3), (4, 38)], [.pointer none, .int .i64 0, .int .i64 0, .int .i64 0, .pointer none], none, 40, false, 1, true⟩),
  (40, ⟨5, true, 0, [(0, 28), (1, 3), (2, 3), (3, 3), (4, 38)], [.pointer none, .int .i64 0, .int .i64 0, .int .i64 0, .pointer none], none, 40, false, 1, true⟩),
  (41, ⟨1, false, 0, [], [.nilFunc], none, 8, false, 7, true⟩),
  (42, ⟨1, false, 0, [], [.nilFunc], none, 8, false, 7, true⟩),
  (43, ⟨2, true, 0, [(0, 3), (1, 3)], [.int .i64 0, .int .i64 0], none, 16, false, 1, true⟩),
  (44, ⟨2, true, 0, [(0, 3), (1, 3)], [.int .i64 0, .int .i64 0], none, 16, false, 1, true⟩),
  (45, ⟨1, false, 0, [], [.nilFunc], none, 8, false, 7, true⟩),
  (46, ⟨3, true, 0, [(0, 44), (2, 3)], [.int .i64 0, .int .i64 0, .int .i64 0], none, 24, false, 1, true⟩),
  (47, ⟨3, true, 0, [(0, 44), (2, 3)], [.int .i64 0, .int .i64 0, .int .i64 0], none, 24, false, 1, true⟩),
  (48, ⟨1, false, 0, [], [.nilFunc], none, 8, false, 7, true⟩),
  (49, ⟨1, false, 0, [], [.nilFunc], none, 8, false, 7, true⟩),
  (51, ⟨1, false, 0, [], [.nilFunc], none, 8, false, 7, true⟩),
  (52, ⟨1, false, 0, [], [.nilFunc], none, 8, false, 7, true⟩),
  (53, ⟨1, false, 56, [], [.slice none 0 0], none, 24, true, 2, true⟩),
  (54, ⟨1, false, 0, [], [.nilFunc], none, 8, false, 7, true⟩),
  (55, ⟨3, true, 0, [(0, 3), (1, 3), (2, 22)], [.int .i64 0, .int .i64 0, .slice none 0 0], none, 40, false, 1, true⟩),
  (56, ⟨3, true, 0, [(0, 3), (1, 3), (2, 22)], [.int .i64 0, .int .i64 0, .slice none 0 0], none, 40, false, 1, true⟩),
  (57, ⟨1, false, 0, [], [.nilFunc], none, 8, false, 7, true⟩),
  (58, ⟨1, false, 0, [], [.nilFunc], none, 8, false, 7, true⟩),
  (59, ⟨1, false, 0, [], [.nilFunc], none, 8, false, 7, true⟩),
  (60, ⟨1, false, 0, [], [.nilFunc], none, 8, false, 7, true⟩),
  (61, ⟨1, false, 0, [], [.pointer none], none, 8, false, 4, true⟩),
  (62, ⟨1, false, 0, [], [.nilFunc], none, 8, false, 7, true⟩),
  (63, ⟨1, false, 0, [], [.nilFunc], none, 8, false, 7, true⟩),
  (64, ⟨1, false, 0, [], [.pointer none], none, 8, false, 4, true⟩),
  (65, ⟨2, true, 0, [(0, 24), (1, 25)], [.slice none 0 0, .slice none 0 0], none, 48, false, 1, true⟩),
  (66, ⟨2, true, 0, [(0, 24), (1, 25)], [.slice none 0 0, .slice none 0 0], none, 48, false, 1, true⟩),
  (67, ⟨1, false, 66, [], [.slice none 0 0], none, 24, true, 2, true⟩),
  (68, ⟨3, true, 0, [(0, 22), (1, 61), (2, 67)], [.slice none 0 0, .pointer none, .slice none 0 0], none, 56, false, 1, true⟩),
  (69, ⟨3, true, 0, [(0, 22), (1, 61), (2, 67)], [.slice none 0 0, .pointer none, .slice none 0 0], none, 56, false, 1, true⟩),
  (70, ⟨1, false, 0, [], [.nilFunc], none, 8, false, 7, true⟩),
  (71, ⟨1, false, 0, [], [.nilFunc], none, 8, false, 7, true⟩),
  (72, ⟨1, false, 0, [], [.nilFunc], none, 8, false, 7, true⟩),
  (73, ⟨6, true, 0, [(0, 3), (1, 3), (2, 3), (3, 4), (4, 22), (5, 25)], [.int .i64 0, .int .i64 0, .int .i64 0, .bool false, .slice none 0 0, .slice none 0 0], none, 80, false, 1, true⟩),
  (74, ⟨6, true, 0, [(0, 3), (1, 3), (2, 3), (3, 4), (4, 22), (5, 25)], [.int .i64 0, .int .i64 0, .int .i64 0, .bool false, .slice none 0 0, .slice none 0 0], none, 80, false, 1, true⟩),
  (75, ⟨1, false, 0, [], [.nilFunc], none, 8, false, 7, true⟩),
  (77, ⟨1, false, 0, [], [.nilFunc], none, 8, false, 7, true⟩),
  (78, ⟨1, false, 0, [], [.int .i64 0], some .i64, 8, false, 3, true⟩),
  (80, ⟨1, false, 0, [], [.nilFunc], none, 8, false, 7, true⟩),
  (81, ⟨1, false, 0, [], [.nilFunc], none, 8, false, 7, true⟩),
  (82, ⟨1, false, 0, [], [.nilFunc], none, 8, false, 7, true⟩),
  (83, ⟨1, false, 0, [], [.nilFunc], none, 8, false, 7, true⟩),
  (84, ⟨1, false, 0, [], [.nilFunc], none, 8, false, 7, true⟩),
  (85, ⟨1, false, 0, [], [.nilFunc], none, 8, false, 7, true⟩),
  (86, ⟨1, false, 0, [], [.nilFunc], none, 8, false, 7, true⟩),
  (88, ⟨1, false, 0, [], [.nilFunc], none, 8, false, 7, true⟩),
  (89, ⟨1, false, 0, [], [.nilFunc], none, 8, false, 7, true⟩),
  (90, ⟨3, true, 0, [(0, 3), (1, 3), (2, 3)], [.int .i64 0, .int .i64 0, .int .i64 0], none, 24, false, 1, true⟩),
  (91, ⟨3, true, 0, [(0, 3), (1, 3), (2, 3)], [.int .i64 0, .int .i64 0, .int .i64 0], none, 24, false, 1, true⟩),
  (92, ⟨1, false, 123, [], [.slice none 0 0], none, 24, true, 2, true⟩),
  (93, ⟨6, true, 0, [(0, 91), (3, 92), (4, 4), (5, 4)], [.int .i64 0, .int .i64 0, .int .i64 0, .slice none 0 0, .bool false, .bool false], none, 56, false, 1, true⟩),
  (94, ⟨6, true, 0, [(0, 91), (3, 92), (4, 4), (5, 4)], [.int .i64 0, .int .i64 0, .int .i64 0, .slice none 0 0, .bool false, .bool false], none, 56, false, 1, true⟩),
  (95, ⟨1, false, 0, [], [.nilFunc], none, 8, false, 7, true⟩),
  (96, ⟨1, false, 0, [], [.nilFunc], none, 8, false, 7, true⟩),
  (97, ⟨1, false, 100, [], [.slice none 0 0], none, 24, true, 2, true⟩),
  (98, ⟨1, false, 0, [], [.nilFunc], none, 8, false, 7, true⟩),
  (99, ⟨3, true, 0, [(0, 21), (1, 3), (2, 3)], [.int .i32 0, .int .i64 0, .int .i64 0], none, 24, false, 1, true⟩),
  (100, ⟨3, true, 0, [(0, 21), (1, 3), (2, 3)], [.int .i32 0, .int .i64 0, .int .i64 0], none, 24, false, 1, true⟩),
  (101, ⟨1, false, 74, [], [.slice none 0 0], none, 24, true, 2, true⟩),
  (102, ⟨1, true, 0, [(0, 101)], [.slice none 0 0], none, 24, false, 1, true⟩),
  (103, ⟨1, true, 0, [(0, 101)], [.slice none 0 0], none, 24, false, 1, true⟩),
  (104, ⟨1, false, 0, [], [.pointer none], none, 8, false, 4, true⟩),
  (105, ⟨1, false, 0, [], [.nilFunc], none, 8, false, 7, true⟩),
  (106, ⟨1, false, 109, [], [.slice none 0 0], none, 24, true, 2, true⟩),
  (107, ⟨1, false, 0, [], [.nilFunc], none, 8, false, 7, true⟩),
  (108, ⟨4, true, 0, [(0, 3), (1, 3), (2, 3), (3, 4)], [.int .i64 0, .int .i64 0, .int .i64 0, .bool false], none, 32, false, 1, true⟩),
  (109, ⟨4, true, 0, [(0, 3), (1, 3), (2, 3), (3, 4)], [.int .i64 0, .int .i64 0, .int .i64 0, .bool false], none, 32, false, 1, true⟩),
  (110, ⟨1, false, 0, [], [.nilFunc], none, 8, false, 7, true⟩),
  (112, ⟨1, false, 0, [], [.nilFunc], none, 8, false, 7, true⟩),
  (114, ⟨1, false, 0, [], [.nilFunc], none, 8, false, 7, true⟩),
  (115, ⟨1, false, 0, [], [.nilFunc], none, 8, false, 7, true⟩),
  (116, ⟨1, false, 0, [], [.pointer none], none, 8, false, 4, true⟩),
  (117, ⟨1, false, 91, [], [.slice none 0 0], none, 24, true, 2, true⟩),
  (118, ⟨1, false, 0, [], [.nilFunc], none, 8, false, 7, true⟩),
  (119, ⟨2, true, 0, [(0, 117), (1, 3)], [.slice none 0 0, .int .i64 0], none, 32, false, 1, true⟩),
  (120, ⟨2, true, 0, [(0, 117), (1, 3)], [.slice none 0 0, .int .i64 0], none, 32, false, 1, true⟩),
  (121, ⟨1, false, 0, [], [.nilFunc], none, 8, false, 7, true⟩),
  (122, ⟨9, true, 0, [(0, 91), (3, 91), (6, 91)], [.int .i64 0, .int .i64 0, .int .i64 0, .int .i64 0, .int .i64 0, .int .i64 0, .int .i64 0, .int .i64 0, .int .i64 0], none, 72, false, 1, true⟩),
  (123, ⟨9, true, 0, [(0, 91), (3, 91), (6, 91)], [.int .i64 0, .int .i64 0, .int .i64 0, .int .i64 0, .int .i64 0, .int .i64 0, .int .i64 0, .int .i64 0, .int .i64 0], none, 72, false, 1, true⟩),
  (125, ⟨1, false, 0, [], [.nilFunc], none, 8, false, 7, true⟩),
  (126, ⟨1, false, 0, [], [.nilFunc], none, 8, false, 7, true⟩),
  (127, ⟨1, false, 0, [], [.pointer none], none, 8, false, 4, true⟩),
  (128, ⟨2, true, 0, [(0, 127), (1, 22)], [.pointer none, .slice none 0 0], none, 32, false, 1, true⟩),
  (129, ⟨2, true, 0, [(0, 127), (1, 22)], [.pointer none, .slice none 0 0], none, 32, false, 1, true⟩),
  (133, ⟨1, false, 0, [], [.nilFunc], none, 8, false, 7, true⟩),
  (134, ⟨1, false, 0, [], [.nilFunc], none, 8, false, 7, true⟩),
  (135, ⟨3, true, 0, [(0, 9), (1, 3), (2, 3)], [.string ⟨#[]⟩, .int .i64 0, .int .i64 0], none, 32, false, 1, true⟩),
  (136, ⟨3, true, 0, [(0, 9), (1, 3), (2, 3)], [.string ⟨#[]⟩, .int .i64 0, .int .i64 0], none, 32, false, 1, true⟩),
  (137, ⟨15, true, 136, [], [.string ⟨#[]⟩, .int .i64 0, .int .i64 0, .string ⟨#[]⟩, .int .i64 0, .int .i64 0, .string ⟨#[]⟩, .int .i64 0, .int .i64 0, .string ⟨#[]⟩, .int .i64 0, .int .i64 0, .string ⟨#[]⟩, .int .i64 0, .int .i64 0], none, 160, false, 105, true⟩),
  (138, ⟨1, false, 0, [], [.nilFunc], none, 8, false, 7, true⟩),
  (139, ⟨1, false, 0, [], [.nilFunc], none, 8, false, 7, true⟩),
  (140, ⟨1, false, 0, [], [.nilFunc], none, 8, false, 7, true⟩),
  (142, ⟨1, false, 0, [], [.nilFunc], none, 8, false, 7, true⟩),
  (143, ⟨1, false, 0, [], [.nilFunc], none, 8, false, 7, true⟩),
  (144, ⟨1, false, 0, [], [.nilFunc], none, 8, false, 7, true⟩),
  (145, ⟨1, false, 0, [], [.nilFunc], none, 8, false, 7, true⟩),
  (146, ⟨1, false, 0, [], [.nilFunc], none, 8, false, 7, true⟩),
  (147, ⟨1, false, 0, [], [.pointer none], none, 8, false, 4, true⟩),
  (149, ⟨1, false, 0, [], [.nilFunc], none, 8, false, 7, true⟩),
  (150, ⟨1, false, 0, [], [.nilFunc], none, 8, false, 7, true⟩),
  (151, ⟨1, false, 0, [], [.nilFunc], none, 8, false, 7, true⟩),
  (152, ⟨1, false, 0, [], [.int .u64 0], some .u64, 8, false, 3, true⟩),
  (153, ⟨1, false, 0, [], [.nilFunc], none, 8, false, 7, true⟩),
  (154, ⟨1, false, 0, [], [.nilFunc], none, 8, false, 7, true⟩),
  (155, ⟨1, false, 0, [], [.nilFunc], none, 8, false, 7, true⟩),
  (156, ⟨1, false, 0, [], [.nilFunc], none, 8, false, 7, true⟩),
  (157, ⟨1, false, 0, [], [.nilFunc], none, 8, false, 7, true⟩),
  (158, ⟨1, false, 0, [], [.nilFunc], none, 8, false, 7, true⟩),
  (159, ⟨1, false, 0, [], [.nilFunc], none, 8, false, 7, true⟩),
  (160, ⟨1, false, 0, [], [.nilFunc], none, 8, false, 7, true⟩),
  (162, ⟨1, false, 0, [], [.nilFunc], none, 8, false, 7, true⟩),
  (163, ⟨1, false, 0, [], [.nilFunc], none, 8, false, 7, true⟩),
  (164, ⟨1, false, 0, [], [.nilFunc], none, 8, false, 7, true⟩),
  (165, ⟨1, false, 0, [], [.nilFunc], none, 8, false, 7, true⟩),
  (166, ⟨1, false, 0, [], [.nilFunc], none, 8, false, 7, true⟩),
  (167, ⟨1, false, 0, [], [.nilFunc], none, 8, false, 7, true⟩),
  (168, ⟨1, false, 0, [], [.nilFunc], none, 8, false, 7, true⟩),
  (169, ⟨1, false, 0, [], [.nilFunc], none, 8, false, 7, true⟩),
  (170, ⟨2, true, 0, [(0, 21), (1, 21)], [.int .i32 0, .int .i32 0], none, 8, false, 1, true⟩),
  (171, ⟨2, true, 0, [(0, 21), (1, 21)], [.int .i32 0, .int .i32 0], none, 8, false, 1, true⟩),
  (172, ⟨1, false, 171, [], [.slice none 0 0], none, 24, true, 2, true⟩),
  (173, ⟨4, true, 0, [(0, 17), (1, 17), (2, 17), (3, 9)], [.pointer none, .pointer none, .pointer none, .string ⟨#[]⟩], none, 40, false, 1, true⟩),
  (174, ⟨4, true, 0, [(0, 17), (1, 17), (2, 17), (3, 9)], [.pointer none, .pointer none, .pointer none, .string ⟨#[]⟩], none, 40, false, 1, true⟩),
  (175, ⟨0, true, 16, [], [], none, 0, false, 100, true⟩),
  (176, ⟨0, true, 0, [(0, 175)], [], none, 0, false, 1, true⟩),
  (177, ⟨0, true, 0, [(0, 175)], [], none, 0, false, 1, true⟩),
  (178, ⟨1, false, 0, [], [.int .u32 0], some .u32, 4, false, 3, true⟩),
  (179, ⟨1, false, 0, [], [.int .u8 0], some .u8, 1, false, 3, true⟩),
  (180, ⟨1, false, 0, [], [.int .u8 0], some .u8, 1, false, 3, true⟩),
  (181, ⟨1, false, 0, [], [.nilFunc], none, 8, false, 7, true⟩),
  (182, ⟨1, false, 0, [], [.int .i32 0], some .i32, 4, false, 3, true⟩),
  (183, ⟨1, false, 0, [], [.int .i32 0], some .i32, 4, false, 3, true⟩),
  (184, ⟨11, true, 0, [(0, 12), (1, 12), (2, 178), (3, 179), (4, 5), (5, 5), (6, 180), (7, 181), (8, 147), (9, 182), (10, 183)], [.int .u64 0, .int .u64 0, .int .u32 0, .int .u8 0, .int .u8 0, .int .u8 0, .int .u8 0, .nilFunc, .pointer none, .int .i32 0, .int .i32 0], none, 48, false, 1, true⟩),
  (185, ⟨11, true, 0, [(0, 12), (1, 12), (2, 178), (3, 179), (4, 5), (5, 5), (6, 180), (7, 181), (8, 147), (9, 182), (10, 183)], [.int .u64 0, .int .u64 0, .int .u32 0, .int .u8 0, .int .u8 0, .int .u8 0, .int .u8 0, .nilFunc, .pointer none, .int .i32 0, .int .i32 0], none, 48, false, 1, true⟩),
  (186, ⟨1, false, 0, [], [.nilFunc], none, 8, false, 7, true⟩)]
def tys : Tys := fun _ => tysL
theorem tyOk : TyOk Try.prog tys := by
  show TyOkL Try.prog tysL
  unfold tysL
  repeat refine TyOk.cons (TiOk.of (by kernel_rfl) (by kernel_rfl) (by kernel_rfl)) ?_
  exact TyOk.nil
end Go.Proofs.Ytblafdmmebiagaa
namespace Go.Proofs.Ytblafdmmebiagaa
open Go.RowKit Go.Lib
section
variable {P : Program} {ty : Tys} {w0 w : World} {g0 : Gh} {o0 : List Ob} {N : Nat} {s s' : St} {a : Act}
theorem seen_sim (ρ : List (Option Nat)) {l : Eqs} (h : seen o0 ρ s s' = some l) (hl : AllEq l) (hs : Sim w0 g0 o0 N s a w) : Sim w0 g0 o0 N s' a w := by
  unfold seen at h
  split at h
  · rename_i hk
    obtain ⟨ho, hh, hn⟩ := hk
    obtain ⟨⟨l1, h1, hl1⟩, l2, h2, hl2⟩ := both_some h hl
    have hF : Fits s.ob s'.ob ρ := renOs_get _ _ _ h2 hl2
    obtain ⟨g, M, hS, h0⟩ := hs.rel
    have head : ∀ j, j < o0.length → ρ[j]? = some (some j) := fun j hj => by
      have := List.all_eq_true.1 hh j (List.mem_range.2 hj)
      simp only [Bool.and_eq_true, beq_iff_eq] at this
      exact this.1
    refine ⟨hs.defers, hs.size, g.ren ρ, M.ren hF ho, fun t => ?_, ?_⟩
    · have : ∀ (l : List (Nat × AV)) (q : Eqs), renT s s' ρ l = some q → AllEq q → ARel w (g.ren ρ) s'.ob (a.tmps.getD t undef) (lk t l) := by
        intro l
        induction l with
        | nil => intro _ _ _; trivial
        | cons p r ih =>
          obtain ⟨u, x'⟩ := p
          intro q hq hql
          obtain ⟨⟨q1, e1, a1⟩, q2, e2, a2⟩ := both_some hq hql
          show ARel w (g.ren ρ) s'.ob _ (if t = u then x' else lk t r)
          by_cases e : t = u
          · subst e
            rw [if_pos rfl]
            exact ren1_rel hF ho (hS t) e1 a1
          · rw [if_neg e]; exact ih q2 e2 a2
      exact this _ _ h1 hl1
    · refine ⟨h0.os, h0.tape, h0.output, h0.size, h0.keep, fun b id hG => ?_, h0.imm, ⟨h0.ext.A, fun id hid => ?_, fun id hb => ?_, fun id hb => ?_, fun id et sz fz e xs hr => ?_, fun b id hG hs => ?_⟩, ?_⟩
      · obtain ⟨i, _, h3⟩ := ren_Gof hG
        exact h0.own b i h3
      · rw [ren_loc (head id hid)]; exact h0.ext.loc id hid
      · exact hF.isB (head id (isBox_lt hb)) (h0.ext.isb id hb)
      · exact hF.isI (head id (isIt_lt hb)) (h0.ext.isi id hb)
      · have hid := lt_of_some hr
        obtain ⟨fz1, e1, xs1, h3, h4, h5⟩ := h0.ext.row id et sz fz e xs hr
        obtain ⟨fz2, e2, h6, _⟩ := hF.row (head id hid) h3
        have he : e1 = e2 ∨ e < e2 := by
          have := List.all_eq_true.1 hh id (List.mem_range.2 hid)
          simp only [Bool.and_eq_true, hr, h3, h6, beq_iff_eq, Bool.or_eq_true, decide_eq_true_eq] at this
          exact this.2
        rcases he with he | he
        rotate_left
        · exact ⟨fz2, e2, xs1, h6, by omega, fun hee => by omega⟩
        subst he
        exact ⟨fz2, e1, xs1, h6, h4, fun hee => ⟨(h5 hee).1, fun b hb => ⟨ren_G ho (head id hid) ((h5 hee).2 b hb).1, ((h5 hee).2 b hb).2⟩⟩⟩
      · obtain ⟨et, sz, fz, fz', e, xs, xs', h3, h4⟩ := hs
        have hid := lt_of_some h3
        obtain ⟨fz1, e1, xs1, h5, h6, h7⟩ := h0.ext.row id et sz fz e xs h3
        obtain ⟨fz2, e2, h8, _⟩ := hF.row (head id hid) h5
        rw [h8] at h4
        obtain ⟨rfl, rfl, rfl⟩ : fz2 = fz' ∧ e2 = e ∧ xs1 = xs' := by simpa using h4
        have he : e1 = e2 := by
          have := List.all_eq_true.1 hh id (List.mem_range.2 hid)
          simp only [Bool.and_eq_true, h3, h5, h8, beq_iff_eq, Bool.or_eq_true, decide_eq_true_eq] at this
          omega
        subst he
        obtain ⟨h9, h10⟩ := h0.ext.sub b id hG ⟨_, _, _, _, _, _, _, h3, h5⟩
        have h11 := ren_sub (g := g) ho (head id hid) ((h7 rfl).2 b hG).1
        exact ⟨h11.trans h9, h10⟩
      · rw [← hF.1]; exact hn
  · cases h
end
end Go.Proofs.Ytblafdmmebiagaa
namespace Go.Proofs.Ytblafdmmebiagaa
open Go.RowKit Go.Lib
theorem least (p : Nat → Prop) (h : ∃ n, p n) : ∃ n, p n ∧ ∀ m, p m → n ≤ m := by
  obtain ⟨n, hn⟩ := h
  induction n using Nat.strongRecOn with
  | _ n ih =>
    by_cases h : ∃ m, m < n ∧ p m
    · obtain ⟨m, h1, h2⟩ := h
      exact ih m h1 h2
    · exact ⟨n, hn, fun m hm => Nat.le_of_not_lt fun hlt => h ⟨m, hlt, hm⟩⟩
def Seen (o0 : List Ob) (s s' : St) : Prop := ∃ ρ l, seen o0 ρ s s' = some l ∧ AllEq l
section
variable {P : Program} {ty : Tys} {w0 : World} {g0 : Gh} {o0 : List Ob} {N : Nat}
def RoundOk {X : Type} (o0 : List Ob) (S : X → St) (J : X → Prop) (μ : X → Nat) (x : X) (Q : Ex → St → Prop) : Ex → St → Prop
  | .normal, s => ∃ x', J x' ∧ μ x' < μ x ∧ Seen o0 s (S x')
  | e, s => Q e s
theorem loop_rule (hT : TyOk P ty) (hm : P.follows .mixedOrders = true) {cs : Nat → List AV → List Ob → Option (AV × List Ob)} {ord : Nat → OT} {c : Code} (hd : dstOk N c = true) (ho : ordOk .any ty ord c = true)
    {X : Type} (S : X → St) (J : X → Prop) (μ : X → Nat) {Q : Ex → St → Prop} {s : St} (x0 : X) (h0 : J x0) (hS : Seen o0 s (S x0))
    (round : ∀ x, J x → (aexec std ty cs ord c (fun e s => .leaf e s) (S x)).ok P w0 g0 o0 N (RoundOk o0 S J μ x Q)) : WP P w0 g0 o0 N (.loop c) Q s := by
  intro a w hs
  obtain ⟨ρ, l, hl, hE⟩ := hS
  let I : Act → World → Prop := fun a w => ∃ x, J x ∧ Sim w0 g0 o0 N (S x) a w
  let pm : Act → World → Nat → Prop := fun a w n => ∃ x, J x ∧ Sim w0 g0 o0 N (S x) a w ∧ μ x = n
  let m : Act → World → Nat := fun a w => open Classical in if h : ∃ n, pm a w n then Classical.choose (least _ h) else 0
  have hmin : ∀ a w, I a w → pm a w (m a w) ∧ ∀ k, pm a w k → m a w ≤ k := fun a w hI => by
    have h : ∃ n, pm a w n := by
      obtain ⟨x, h1, h2⟩ := hI
      exact ⟨μ x, x, h1, h2, rfl⟩
    have e : m a w = Classical.choose (least _ h) := dif_pos h
    rw [e]
    exact Classical.choose_spec (least _ h)
  refine wp_loop I m ⟨x0, h0, seen_sim ρ hl hE hs⟩ fun a w hI => ?_
  obtain ⟨⟨x, hJ, hx, hμ⟩, hle⟩ := hmin a w hI
  refine aexec_sound (Q := RoundOk o0 S J μ x Q) hT hm c _ _ (S x) a w hd ho (fun c a d v w h => ?_) (fun e s a' w' hs' hq => ?_) hx (round x hJ)
  · obtain ⟨e', s', h1, h2, h3⟩ := h
    cases e' <;> cases h1
  · cases e with
    | normal =>
      obtain ⟨x', h1, h2, ρ', l', h3, h4⟩ := hq
      have hs2 := seen_sim ρ' h3 h4 hs'
      have hI' : I a' w' := ⟨x', h1, hs2⟩
      refine ⟨hI', Nat.lt_of_le_of_lt ((hmin a' w' hI').2 _ ⟨x', h1, hs2, rfl⟩) ?_⟩
      rw [← hμ]; exact h2
    | exit i => exact ⟨.exit i, s, rfl, hs', hq⟩
    | ret => exact ⟨.ret, s, rfl, hs', hq⟩
end
end Go.Proofs.Ytblafdmmebiagaa
namespace Go.Proofs.Ytblafdmmebiagaa
open Go.RowKit Go.Lib
section
variable {P : Program} {w w' : World} {g : Gh} {ob : List Ob}
theorem argsNil {vs : List Value} (h : ARelL w g ob vs []) : vs = [] := List.eq_nil_of_length_eq_zero h.1
theorem argsCons {vs : List Value} {x : AV} {r : List AV} (h : ARelL w g ob vs (x :: r)) : ∃ v vs', vs = v :: vs' ∧ ARel1 w g ob v x ∧ ARelL w g ob vs' r := by
  cases vs with
  | nil => exact absurd h.1 (by simp)
  | cons v vs => exact ⟨v, vs, rfl, h.2 0 v x rfl rfl, by simpa using h.1, fun j a b ha hb => h.2 (j + 1) a b (by simpa using ha) (by simpa using hb)⟩
theorem argVal {v u : Value} (h : ARel1 w g ob v (.val u)) : v = u := ARel.valEq (ARel1.to h)
theorem argRd {v : Value} {sz : Nat} {xs : List AV} (h : ARel1 w g [] v (.slc sz xs)) (M : Mem w g []) :
    ∃ A c ys, v = .slice A xs.length c ∧ Rd w (fun _ => True) sz A xs.length c ys ∧ Alike w g.A ys (flatA xs) :=
  elems_rel (s := ⟨[], []⟩) M (ARel1.to h) rfl
theorem alikeVals {A : Nat → Nat → Prop} {us : List Value} : ∀ {ys : List Value}, Alike w A ys (us.map .val) → ys = us := by
  induction us with
  | nil => intro ys h; exact List.eq_nil_of_length_eq_zero h.1
  | cons u us ih =>
    intro ys h
    cases ys with
    | nil => exact absurd h.1 (by simp)
    | cons y ys =>
      have h1 : PRel w A y (.val u) := h.2 0 y (.val u) rfl rfl
      have h2 : y = u := by cases h1; rfl
      rw [h2, ih (ys := ys) ⟨by simpa using h.1, fun j a b ha hb => h.2 (j + 1) a b (by simpa using ha) (by simpa using hb)⟩]
theorem flatVals (us : List Value) : flatA (us.map .val) = us.map .val := by
  induction us with
  | nil => rfl
  | cons u us ih => simp only [flatA, List.map_cons, List.flatMap_cons] at ih ⊢; rw [ih]; rfl
theorem rd_slc {A' : Nat → Nat → Prop} {S : Nat → Prop} {sz n c : Nat} {A : Option Addr} {ys : List Value} {xs : List AV} (hr : Rd w S sz A n c ys) (hS : ∀ b o, S b → A' b o) (hn : n = xs.length) (hw : ∀ x ∈ xs, x.cells.length = sz) (hA : ∀ a, A = some a → ∃ b o, a = ⟨b, o, none⟩)
    (hal : Alike w A' ys (flatA xs)) : PRel w A' (.slice A n c) (.slc sz xs) := by
  subst hn
  obtain ⟨h1, h2, h3, h4, h5⟩ := hr
  cases A with
  | none =>
    have hc := h4 rfl
    subst hc
    have : xs = [] := List.eq_nil_of_length_eq_zero (by omega)
    subst this
    exact PRel.nil sz
  | some a =>
    obtain ⟨b, o, rfl⟩ := hA a rfl
    have pos : ∀ (j : Nat) u, (flatA xs)[j]? = some u → 0 < xs.length := fun j u hu => by
      cases xs with
      | nil => simp at hu
      | cons _ _ => simp
    have h5' : 0 < xs.length → S b ∧ ∀ j u, ys[j]? = some u → w.cell? ⟨b, o + j, none⟩ = some u := fun h => by
      obtain ⟨b', o', h6, h7, h8⟩ := h5 h
      cases h6
      exact ⟨h7, h8⟩
    have get : ∀ (j : Nat) u, (flatA xs)[j]? = some u → ∃ y, ys[j]? = some y ∧ ys.getD j undef = y := fun j u hu => by
      have hj : j < ys.length := by rw [hal.1]; exact lt_of_some hu
      exact ⟨ys[j], List.getElem?_eq_getElem hj, by rw [List.getD_eq_getElem?_getD, List.getElem?_eq_getElem hj]; rfl⟩
    refine PRel.slc b o c sz xs (fun j => ys.getD j undef) h2 h3 hw (fun j u hu => ?_) (fun j u hu => ?_)
    · obtain ⟨y, hy, he⟩ := get j u hu
      obtain ⟨h7, h8⟩ := h5' (pos j u hu)
      exact ⟨hS _ _ h7, by rw [he]; exact h8 j y hy⟩
    · obtain ⟨y, hy, he⟩ := get j u hu
      rw [he]; exact hal.2 j y u hy hu
theorem leT_rel : ∀ {vs : List Value} {xs ys : List AV}, ARelL w g ob vs xs → leT xs ys → ARelL w g ob vs ys
  | vs, [], [], h, _ => h
  | _, [], _ :: _, _, hl => hl.elim
  | _, _ :: _, [], _, hl => hl.elim
  | [], x :: r, y :: r', h, _ => absurd h.1 (by simp)
  | v :: vs, x :: r, y :: r', h, hl => by
    have h1 := h.2 0 v x rfl rfl
    have h2 : ARelL w g ob vs r' := leT_rel (xs := r) ⟨by simpa using h.1, fun j a b ha hb => h.2 (j + 1) a b (by simpa using ha) (by simpa using hb)⟩ hl.2
    refine ⟨by simp [h2.1], fun j a b ha hb => ?_⟩
    cases j with
    | zero =>
      obtain rfl : v = a := by simpa using ha
      obtain rfl : y = b := by simpa using hb
      exact leA1_rel h1 hl.1
    | succ j => exact h2.2 j a b (by simpa using ha) (by simpa using hb)
theorem BCall.le {f : Nat} {args args' : List AV} {ob ob' : List Ob} {res : AV} (h : BCall P f args' ob res ob') (hl : leT args args') : BCall P f args ob res ob' :=
  ⟨h.1, fun w g vs M hL => h.2 w g vs M (leT_rel hL hl)⟩
theorem BCall.forget {f : Nat} {args : List AV} {ob ob' : List Ob} {res : AV} (h : BCall P f args ob res ob') : BCall P f args ob .dead ob' :=
  ⟨h.1, fun w g vs M hL => (h.2 w g vs M hL).mono fun e w' ⟨v, g', h1, h2, h3, h4⟩ => ⟨v, g', h1, h2, trivial, h4⟩⟩
theorem BCall.res {f : Nat} {args : List AV} {ob ob' : List Ob} {res res' : AV} (h : BCall P f args ob res ob') (hl : leA res res') : BCall P f args ob res' ob' :=
  ⟨h.1, fun w g vs M hL => (h.2 w g vs M hL).mono fun e w' ⟨v, g', h1, h2, h3, h4⟩ => ⟨v, g', h1, h2, leA_rel h3 hl, h4⟩⟩
theorem BCall.hand {f : Nat} {args : List AV} {res : AV} (he : ∀ vs w, (callFunc f vs).run P w = .ok (.enter f vs) w)
    (h : ∀ (w : World) (g : Gh) (vs : List Value), Mem w g [] → ARelL w g [] vs args → Calls P f vs.toArray w fun e w' => ∃ v, e = .returned v ∧ Below w.heap.size w w' ∧ ARel w' (g.imm w w') [] v res) : BCall P f args [] res [] :=
  ⟨he, fun w g vs M hL => (h w g vs M hL).mono fun e w' ⟨v, h1, hb, hr⟩ => ⟨v, g.imm w w', h1, M.immNew hb, hr, Step.immNew M hb⟩⟩
end
end Go.Proofs.Ytblafdmmebiagaa
namespace Go.Proofs.Ytblafdmmebiagaa
open Go.RowKit Go.Lib
def byteA (x : UInt8) : AV := .val (.int .u8 x.toNat)
def runeA (r : Int) : AV := .val (.int .i32 r)
def intA (n : Int) : AV := .val (.int .i64 n)
def bytesA (b : List UInt8) : List AV := b.map byteA
def runesA (l : List Int) : List AV := l.map runeA
def intsA (l : List Int) : List AV := l.map intA
theorem getA {α : Type} (f : α → AV) {l : List α} {i : Int} (h0 : 0 ≤ i) (h1 : i < l.length) (d : α) : (l.map f)[i.toNat]?.getD .dead = f (l[i.toNat]?.getD d) := by
  have : i.toNat < l.length := by omega
  simp [this]
theorem bytes_len (l : List UInt8) : (bytesA l).length = l.length := by simp [bytesA]
theorem runes_len (l : List Int) : (runesA l).length = l.length := by simp [runesA]
theorem ints_len (l : List Int) : (intsA l).length = l.length := by simp [intsA]
theorem runes_app (a b : List Int) : runesA (a ++ b) = runesA a ++ runesA b := by simp [runesA]
theorem ints_app (a b : List Int) : intsA (a ++ b) = intsA a ++ intsA b := by simp [intsA]
theorem ints_one (n : Int) : intsA [n] = [.val (.int .i64 n)] := rfl
theorem runes_at {l : List Int} {i : Int} (h0 : 0 ≤ i) (h1 : i < l.length) : (runesA l)[i.toNat]?.getD .dead = .val (.int .i32 (l[i.toNat]?.getD 0)) := getA runeA h0 h1 0
theorem ints_at {l : List Int} {i : Int} (h0 : 0 ≤ i) (h1 : i < l.length) : (intsA l)[i.toNat]?.getD .dead = .val (.int .i64 (l[i.toNat]?.getD 0)) := getA intA h0 h1 0
theorem inR64 (n : Int) : std.inR .i64 n ↔ (-9223372036854775808 ≤ n ∧ n ≤ 9223372036854775807) := Iff.rfl
theorem inR32 (n : Int) : std.inR .i32 n ↔ (-2147483648 ≤ n ∧ n ≤ 2147483647) := Iff.rfl
def Len {α : Type} (xs : List α) (n : Int) : Prop := n = xs.length
theorem Len.eq {α : Type} {xs : List α} {n : Int} (h : Len xs n) : n = (xs.length : Int) := h
theorem exLen {α : Type} (xs : List α) : ∃ n, Len xs n := ⟨_, rfl⟩
def cs0 : Nat → List AV → List Ob → Option (AV × List Ob) := fun _ _ _ => none
theorem BytesClone_b (xs : List AV) (hn : xs.length ≤ 1000000000) : BCall Try.prog 48 [.slc 1 xs] [] (.slc 1 xs) [] := by
  refine bcall_of (cs := cs0) (ord := fun _ => .nil) tyOk (by kernel_rfl) Try.func48 rfl (enters_of Try.func48 (by kernel_rfl) rfl) (Nat.le_of_ble_eq_true rfl) (by kernel_rfl) (by kernel_rfl) ?_
  intro w0 g0
  generalize hp : std = p
  generalize hT : aexec p tys (cs0) _ _ _ _ = T
  cbv at hT
  subst hT
  simp only [Tree.ok, RoundOk, Bool.false_eq_true, Bool.true_eq_false, false_implies, true_implies, and_true, true_and]
  subst hp
  refine ⟨fun h => .pure rfl ?_, ?_, .pure rfl (.inl rfl)⟩
  · have h : xs = [] := h
    subst h
    exact .inr (.inl ⟨rfl, _, rfl⟩)
  · show 0 + xs.length ≤ 1000000000
    omega
theorem CloneB_b (xs : List AV) (hn : xs.length ≤ 1000000000) : BCall Try.prog 99 [.slc 1 xs] [] (.slc 1 xs) [] := by
  refine bcall_of (cs := cs0) (ord := fun _ => .nil) tyOk (by kernel_rfl) Try.func99 rfl (enters_of Try.func99 (by kernel_rfl) rfl) (Nat.le_of_ble_eq_true rfl) (by kernel_rfl) (by kernel_rfl) ?_
  intro w0 g0
  generalize hp : std = p
  generalize hT : aexec p tys (cs0) _ _ _ _ = T
  cbv at hT
  subst hT
  simp only [Tree.ok, RoundOk, Bool.false_eq_true, Bool.true_eq_false, false_implies, true_implies, and_true, true_and]
  subst hp
  refine ⟨fun h => .pure rfl ?_, ?_, .pure rfl (.inl rfl)⟩
  · have h : xs = [] := h
    subst h
    exact .inr (.inl ⟨rfl, _, rfl⟩)
  · show 0 + xs.length ≤ 1000000000
    omega
theorem CloneI_b (xs : List AV) (hn : xs.length ≤ 1000000000) : BCall Try.prog 40 [.slc 1 xs] [] (.slc 1 xs) [] := by
  refine bcall_of (cs := cs0) (ord := fun _ => .nil) tyOk (by kernel_rfl) Try.func40 rfl (enters_of Try.func40 (by kernel_rfl) rfl) (Nat.le_of_ble_eq_true rfl) (by kernel_rfl) (by kernel_rfl) ?_
  intro w0 g0
  generalize hp : std = p
  generalize hT : aexec p tys (cs0) _ _ _ _ = T
  cbv at hT
  subst hT
  simp only [Tree.ok, RoundOk, Bool.false_eq_true, Bool.true_eq_false, false_implies, true_implies, and_true, true_and]
  subst hp
  refine ⟨fun h => .pure rfl ?_, ?_, .pure rfl (.inl rfl)⟩
  · have h : xs = [] := h
    subst h
    exact .inr (.inl ⟨rfl, _, rfl⟩)
  · show 0 + xs.length ≤ 1000000000
    omega
end Go.Proofs.Ytblafdmmebiagaa
namespace Go.Proofs.Ytblafdmmebiagaa
open Go.RowKit Go.Lib
section
variable {w : World} {g : Gh} {ob : List Ob}
def Gh.kid (g : Gh) (w : World) (id : Nat) (b : Option Nat) (n : Nat) : Gh where
  A b' o := g.A b' o ∨ (b = some b' ∧ o < n)
  G b' := if b = some b' then some id else g.G b'
  loc := g.loc
  sub b' := if b = some b' then true else g.sub b'
theorem kid_get (M : Mem w g ob) {id ep i : Nat} {xs : List AV} (h : ob[id]? = some (.row subT 2 false ep xs)) {b c : Nat} (hv : RowV w g id subT 2 (.slice (some ⟨b, 0, none⟩) xs.length c) xs)
    {a u : AV} (hx : xs[i]? = some (.agg [a, u])) {us : List AV} (hu : u = .slc 1 us ∨ (u = .val (.slice none 0 0) ∧ us = [])) :
    ∃ y zs, w.cell? ⟨b, i * 2 + 1, none⟩ = some y ∧ w.ownsRow 0 kidT 1 y us.length zs ∧ y.oneCell' = true ∧ Alike w g.A zs (flatA us) ∧ (∀ x ∈ us, x.cells.length = 1) ∧ ∀ b', y.ownBlock = some b' → g.G b' = some id ∧ g.sub b' = true ∧ (∀ o, us.length ≤ o → ¬ g.A b' o) ∧ b' < w.heap.size := by
  obtain ⟨ys, ho, hG, hal, hw, hs1, hs2⟩ := hv
  have hil := lt_of_some hx
  have hfl := flat_len xs hw
  have hj : i * 2 + 1 < ys.length := by rw [hal.1, hfl]; omega
  have hyj := List.getElem?_eq_getElem hj
  have hcell := ho.cells (g := b) rfl _ _ hyj
  rw [Addr.add_mid, Nat.zero_add] at hcell
  have huj : (flatA xs)[i * 2 + 1]? = some u := by
    rw [flat_get xs hw i _ hx 1 (by omega)]; rfl
  have hrel := hal.2 _ _ _ hyj huj
  generalize ys[i * 2 + 1] = y at hyj hcell hrel
  obtain ⟨⟨k, zs, h1, h2⟩, h3⟩ := hs2 rfl _ _ hyj (by omega)
  have hone := hrel.one
  -- its length, and its cells by content
  have key : k = us.length ∧ Alike w g.A zs (flatA us) ∧ ∀ x ∈ us, x.cells.length = 1 := by
    rcases hu with rfl | ⟨rfl, rfl⟩
    · cases hrel with
      | nil =>
        rcases h1.2 with ⟨_, h4⟩ | ⟨b', cap, cur, h4, _⟩
        · subst h4
          have : zs = [] := List.eq_nil_of_length_eq_zero (by have := h1.1; omega)
          subst this
          exact ⟨rfl, Alike.nil, fun x hx => by cases hx⟩
        · cases h4
      | slc b' o c' _ _ f hc hm hw' hcl hrl =>
        rcases h1.2 with ⟨h4, _⟩ | ⟨b2, cap, cur, h4, h5⟩
        · cases h4
        · cases h4
          refine ⟨rfl, ?_, hw'⟩
          have hfl2 := flat_len us hw'
          have hzl : zs.length = us.length * 1 := h1.1
          refine ⟨by rw [hzl, hfl2], fun j y' u' hy' hu' => ?_⟩
          have e1 := h1.cells (g := b') rfl j y' hy'
          rw [Addr.add_mid, Nat.zero_add] at e1
          have e2 := (hcl j u' hu').2
          rw [Nat.zero_add, e1] at e2
          obtain rfl : y' = f j := Option.some.inj e2
          exact hrl j u' hu'
    · cases hrel
      rcases h1.2 with ⟨_, h4⟩ | ⟨b', cap, cur, h4, _⟩
      · subst h4
        have : zs = [] := List.eq_nil_of_length_eq_zero (by have := h1.1; omega)
        subst this
        exact ⟨rfl, Alike.nil, fun x hx => by cases hx⟩
      · cases h4
  obtain ⟨rfl, hk2, hk3⟩ := key
  refine ⟨y, zs, hcell, h1, hone, hk2, hk3, fun b' hb' => ?_⟩
  obtain ⟨h4, h5, h6⟩ := h2 b' hb'
  exact ⟨h4, h5, h6, (M.own b' id h4).1⟩
theorem flat_set : ∀ (xs : List AV), (∀ x ∈ xs, x.cells.length = 2) → ∀ (i : Nat) (a u u' : AV), xs[i]? = some (.agg [a, u]) → flatA (xs.set i (.agg [a, u'])) = (flatA xs).set (i * 2 + 1) u'
  | [], _, i, a, u, u', h => by simp at h
  | x :: r, hw, 0, a, u, u', h => by
    obtain rfl : x = .agg [a, u] := by simpa using h
    rfl
  | x :: r, hw, i + 1, a, u, u', h => by
    have ih := flat_set r (fun y hy => hw y (List.mem_cons_of_mem _ hy)) i a u u' (by simpa using h)
    have hx := hw x (List.mem_cons_self ..)
    obtain ⟨p, q, hpq⟩ : ∃ p q, x.cells = [p, q] := by
      match x.cells, hx with
      | [p, q], _ => exact ⟨p, q, rfl⟩
    have e1 : flatA (x :: r) = p :: q :: flatA r := by simp [hpq]
    have e2 : flatA (x :: r.set i (.agg [a, u'])) = p :: q :: flatA (r.set i (.agg [a, u'])) := by simp [hpq]
    rw [List.set_cons_succ, e1, e2, ih, show (i + 1) * 2 + 1 = (i * 2 + 1) + 1 + 1 by omega, List.set_cons_succ, List.set_cons_succ]
set_option maxHeartbeats 1000000 in
theorem kid_set (M : Mem w g ob) {id ep i : Nat} {xs : List AV} (h : ob[id]? = some (.row subT 2 false ep xs)) {b c : Nat} (hv : RowV w g id subT 2 (.slice (some ⟨b, 0, none⟩) xs.length c) xs)
    {a u : AV} (hx : xs[i]? = some (.agg [a, u])) {us : List AV} {y : Value} {zs : List Value} (hcell : w.cell? ⟨b, i * 2 + 1, none⟩ = some y) (hown : w.ownsRow 0 kidT 1 y us.length zs) (hal : Alike w g.A zs (flatA us)) (hus : ∀ x ∈ us, x.cells.length = 1)
    (hyb : ∀ b', y.ownBlock = some b' → g.G b' = some id ∧ g.sub b' = true ∧ (∀ o, us.length ≤ o → ¬ g.A b' o) ∧ b' < w.heap.size)
    {w1 w2 : World} {v' : Value} {n : Int} (hw1 : Below w.heap.size w w1) (ho2 : w2.ownsRow 0 kidT 1 v' (us.length + 1) (zs ++ [.int .i64 n])) (hg : w1.grownBy w2 y.ownBlock) (hvb : v'.ownBlock = y.ownBlock ∨ v'.ownBlock = some w1.heap.size)
    (hc2 : ∀ bb kk, bb < w1.heap.size → (y.ownBlock = some bb → kk < us.length * 1) → w2.cell? ⟨bb, kk, none⟩ = w1.cell? ⟨bb, kk, none⟩) :
    ∃ g3, Mem (w2.setCells b (i * 2 + 1) [v']) g3 (ob.set id (.row subT 2 false (ep + 1) (xs.set i (.agg [a, .slc 1 (us ++ [.val (.int .i64 n)])])))) ∧
      Step w g ob (w2.setCells b (i * 2 + 1) [v']) g3 (ob.set id (.row subT 2 false (ep + 1) (xs.set i (.agg [a, .slc 1 (us ++ [.val (.int .i64 n)])])))) ∧
      RowV (w2.setCells b (i * 2 + 1) [v']) g3 id subT 2 (.slice (some ⟨b, 0, none⟩) xs.length c) (xs.set i (.agg [a, .slc 1 (us ++ [.val (.int .i64 n)])])) := by
  obtain ⟨w3, hw3⟩ : ∃ w3, w3 = w2.setCells b (i * 2 + 1) [v'] := ⟨_, rfl⟩
  obtain ⟨g3, hg3⟩ : ∃ g3, g3 = g.kid w id v'.ownBlock (us.length + 1) := ⟨_, rfl⟩
  rw [← hw3]
  have hid := lt_of_some h
  have hil := lt_of_some hx
  obtain ⟨ys, ho, hG, hya, hyw, hs1, hs2⟩ := hv
  have hGb := hG b rfl
  have hsb := hs1 b rfl
  have hbl := (M.own b id hGb).1
  -- blocks: the main one, the slice's, what is new
  have hyne : ∀ b', y.ownBlock = some b' → b' ≠ b := fun b' hb e => by
    have := (hyb b' hb).2.1
    rw [e, hsb] at this; cases this
  have hvown : ∀ b', v'.ownBlock = some b' → (y.ownBlock = some b' ∧ b' < w.heap.size) ∨ w.heap.size ≤ b' := fun b' hb => by
    rcases hvb with e | e
    · rw [e] at hb; exact .inl ⟨hb, (hyb b' hb).2.2.2⟩
    · rw [e] at hb; cases hb; exact .inr hw1.size
  have keep : ∀ b', b' < w.heap.size → b' ≠ b → y.ownBlock ≠ some b' → w3.heap[b']? = w.heap[b']? := fun b' h1 h2 h3 => by
    rw [hw3, cell_setCells (k := 0) h2, hg.block b' (Nat.lt_of_lt_of_le h1 hw1.size) (fun e => h3 e.symm), hw1.block b' h1]
  have keepc : ∀ b' o, b' < w.heap.size → b' ≠ b → (y.ownBlock = some b' → o < us.length) → w3.cell? ⟨b', o, none⟩ = w.cell? ⟨b', o, none⟩ := fun b' o h1 h2 h3 => by
    rw [hw3, World.cell?_of_block (w := w2) (cell_setCells (k := 0) h2), hc2 b' o (Nat.lt_of_lt_of_le h1 hw1.size) (fun e => by have := h3 e; omega), World.cell?_of_block (w := w) (hw1.block b' h1)]
  have hsz : w.heap.size ≤ w3.heap.size := by
    rw [hw3, size_setCells]
    exact Nat.le_trans hw1.size hg.size
  have nomain : ∀ o, ¬ g.A b o := fun o hA => by
    obtain ⟨et, sz, e, xs2, h1, _⟩ := (M.imm b o hA).2 id hGb hsb
    rw [h] at h1; cases h1
  have hA : ∀ b' o, g.A b' o → w3.cell? ⟨b', o, none⟩ = w.cell? ⟨b', o, none⟩ := fun b' o h1 => by
    refine keepc b' o (M.imm b' o h1).1 (fun e => nomain o (e ▸ h1)) (fun e => ?_)
    refine Nat.lt_of_not_le fun h2 => (hyb b' e).2.2.1 o h2 h1
  have oldG : ∀ b', b' < w.heap.size → g3.G b' = g.G b' := fun b' h1 => by
    rw [hg3]
    show (if v'.ownBlock = some b' then some id else g.G b') = _
    split
    · rename_i e
      rcases hvown b' e with ⟨h2, _⟩ | h2
      · exact ((hyb b' h2).1).symm
      · omega
    · rfl
  have oldS : ∀ b', b' < w.heap.size → g3.sub b' = g.sub b' := fun b' h1 => by
    rw [hg3]
    show (if v'.ownBlock = some b' then true else g.sub b') = _
    split
    · rename_i e
      rcases hvown b' e with ⟨h2, _⟩ | h2
      · exact ((hyb b' h2).2.1).symm
      · omega
    · rfl
  have newA : ∀ b' o, g3.A b' o → g.A b' o ∨ (v'.ownBlock = some b' ∧ o < us.length + 1) := fun b' o h1 => by rw [hg3] at h1; exact h1
  have upA : ∀ b' o, g.A b' o → g3.A b' o := fun b' o h1 => by rw [hg3]; exact .inl h1
  have G3 : ∀ b' k, g3.G b' = some k → (b' < w.heap.size ∧ g.G b' = some k) ∨ (v'.ownBlock = some b' ∧ k = id) := fun b' k h1 => by
    rw [hg3] at h1
    have h1 : (if v'.ownBlock = some b' then some id else g.G b') = some k := h1
    split at h1
    · rename_i e; exact .inr ⟨e, (Option.some.inj h1).symm⟩
    · exact .inl ⟨(M.own b' k h1).1, h1⟩
  have vlt : ∀ b', v'.ownBlock = some b' → b' < w3.heap.size := fun b' hb => by
    rw [hw3, size_setCells]
    exact (ho2.lt b' hb).2
  -- other rows and boxes
  have other : ∀ b' k, g.G b' = some k → k ≠ id → w3.heap[b']? = w.heap[b']? := fun b' k h1 h2 => by
    refine keep b' (M.own b' k h1).1 (fun e => ?_) (fun e => ?_)
    · rw [e, hGb] at h1; exact h2 (Option.some.inj h1).symm
    · rw [(hyb b' e).1] at h1; exact h2 (Option.some.inj h1).symm
  have E : Ext w g ob w3 g3 (ob.set id (.row subT 2 false (ep + 1) (xs.set i (.agg [a, .slc 1 (us ++ [.val (.int .i64 n)])])))) := by
    refine ⟨fun b' o h1 => ⟨upA b' o h1, hA b' o h1⟩, fun _ _ => by rw [hg3]; rfl, fun k hk => ?_, fun k hk => ?_, fun k et sz fz e xs2 hk => ?_, fun b' k hGk hs => ?_⟩
    · have : k ≠ id := by rintro rfl; rw [h] at hk; exact hk
      rw [List.getElem?_set_ne (Ne.symm this)]; exact hk
    · have : k ≠ id := by rintro rfl; rw [h] at hk; exact hk
      rw [List.getElem?_set_ne (Ne.symm this)]; exact hk
    · by_cases e' : k = id
      · subst e'
        rw [h] at hk
        cases hk
        exact ⟨false, ep + 1, _, List.getElem?_set_self hid, by omega, fun h1 => by omega⟩
      · exact ⟨fz, e, xs2, by rw [List.getElem?_set_ne (Ne.symm e')]; exact hk, Nat.le_refl _, fun _ => ⟨rfl, fun b' hb' => ⟨by rw [oldG b' (M.own b' k hb').1]; exact hb', other b' k hb' e'⟩⟩⟩
    · have e' : k ≠ id := by
        rintro rfl
        obtain ⟨et, sz, fz, fz', e, xs2, xs3, h1, h2⟩ := hs
        rw [h] at h1
        cases h1
        rw [List.getElem?_set_self hid] at h2
        have := Option.some.inj h2
        injection this with _ _ _ h3
        omega
      refine ⟨oldS b' (M.own b' k hGk).1, fun _ o h1 => ?_⟩
      rcases newA b' o h1 with h2 | ⟨h2, _⟩
      · exact h2
      · rcases hvown b' h2 with ⟨h3, _⟩ | h3
        · rw [(hyb b' h3).1] at hGk; exact absurd (Option.some.inj hGk).symm e'
        · have := (M.own b' k hGk).1; omega
  have hrow : RowV w3 g3 id subT 2 (.slice (some ⟨b, 0, none⟩) xs.length c) (xs.set i (.agg [a, .slc 1 (us ++ [.val (.int .i64 n)])])) := by
    have hvne : ∀ b', v'.ownBlock = some b' → b' ≠ b := fun b' hb => by
      rcases hvown b' hb with ⟨h1, _⟩ | h1
      · exact hyne b' h1
      · omega
    have hv3 : w3.ownsRow 0 kidT 1 v' (us.length + 1) (zs ++ [.int .i64 n]) := ownsRow_ext ho2 fun b' hb => by rw [hw3]; exact cell_setCells (k := 0) (hvne b' hb)
    have hfl := flat_len xs hyw
    have hjl : i * 2 + 1 < ys.length := by rw [hya.1, hfl]; omega
    have hfs := flat_set xs hyw i a u (.slc 1 (us ++ [.val (.int .i64 n)])) hx
    have hlen' : (us ++ [AV.val (.int .i64 n)]).length = us.length + 1 := by simp
    have hw' : ∀ x ∈ us ++ [AV.val (.int .i64 n)], x.cells.length = 1 := fun x hx => by
      rcases List.mem_append.1 hx with h1 | h1
      · exact hus x h1
      · obtain rfl : x = .val (.int .i64 n) := by simpa using h1
        rfl
    have hfa : flatA (us ++ [AV.val (.int .i64 n)]) = flatA us ++ [.val (.int .i64 n)] := by simp [AV.cells]
    have hal' : Alike w3 g3.A (zs ++ [.int .i64 n]) (flatA (us ++ [AV.val (.int .i64 n)])) := by
      rw [hfa]
      refine (hal.keep E.A).append ⟨rfl, fun j y' u' h1 h2 => ?_⟩
      cases j with
      | zero =>
        obtain rfl : Value.int .i64 n = y' := by simpa using h1
        obtain rfl : AV.val (.int .i64 n) = u' := by simpa using h2
        exact PRel.val _ rfl
      | succ j => simp at h1
    have hvP : PRel w3 g3.A v' (.slc 1 (us ++ [.val (.int .i64 n)])) := by
      rcases hv3.2 with ⟨_, h1⟩ | ⟨b', cap, cur, h1, h2, h3, h4, h5, h6, h7⟩
      · omega
      · subst h1
        rw [← hlen'] at h4 hv3 ⊢
        have hzl : (zs ++ [Value.int .i64 n]).length = (us ++ [AV.val (.int .i64 n)]).length * 1 := hv3.1
        have hfl2 := flat_len (us ++ [AV.val (.int .i64 n)]) hw'
        have get : ∀ (j : Nat) u', (flatA (us ++ [AV.val (.int .i64 n)]))[j]? = some u' → j < (zs ++ [Value.int .i64 n]).length ∧ (zs ++ [Value.int .i64 n])[j]? = some ((zs ++ [Value.int .i64 n]).getD j undef) := fun j u' hu' => by
          have h8 := lt_of_some hu'
          rw [hfl2] at h8
          have h9 : j < (zs ++ [Value.int .i64 n]).length := by omega
          exact ⟨h9, by rw [List.getD_eq_getElem?_getD, List.getElem?_eq_getElem h9]; rfl⟩
        refine PRel.slc b' 0 cap 1 _ (fun j => (zs ++ [Value.int .i64 n]).getD j undef) h4 h5 hw' (fun j u' hu' => ⟨?_, ?_⟩) (fun j u' hu' => ?_)
        · rw [hg3]
          refine .inr ⟨rfl, ?_⟩
          have := (get j u' hu').1
          rw [hzl, hlen'] at this
          omega
        · have := hv3.cells (g := b') rfl j _ (get j u' hu').2
          rw [Addr.add_mid, Nat.zero_add] at this
          rw [Nat.zero_add]; exact this
        · exact hal'.2 j _ u' (get j u' hu').2 hu'
    rcases ho.2 with ⟨h1, _⟩ | ⟨b0, cap, cur, h1, h2, h3, h4, h5, h6, h7⟩
    · cases h1
    · cases h1
      have hh2 : w2.heap[b]? = some (.cells cur subT (0, 0)) := by
        rw [hg.block b (Nat.lt_of_lt_of_le hbl hw1.size) (fun e => hyne b e.symm rfl), hw1.block b hbl]
        exact h3
      have hjc : i * 2 + 1 < cur.size := by
        have : ys.length ≤ cur.size := by rw [← h7, List.length_take]; simp; omega
        omega
      have hh3 := heap_setCells_self (W := w2) [v'] (i * 2 + 1) w2 cur hh2 (by simp; omega)
      have hset : cur.toList.take (i * 2 + 1) ++ ([v'] ++ cur.toList.drop (i * 2 + 1 + [v'].length)) = cur.toList.set (i * 2 + 1) v' := by
        rw [List.set_eq_take_append_cons_drop, if_pos (by simpa using hjc)]
        rfl
      rw [hset] at hh3
      refine ⟨ys.set (i * 2 + 1) v', ⟨by rw [List.length_set, List.length_set]; exact ho.1, .inr ⟨b, c, (cur.toList.set (i * 2 + 1) v').toArray, by rw [List.length_set], Nat.zero_le _, by rw [hw3]; exact hh3, by rw [List.length_set]; exact h4, h5, by simpa using h6, ?_⟩⟩, fun b' hb => ?_, ?_, ?_, fun b' hb => ?_, fun _ j y' hy' hj => ?_⟩
      · rw [List.length_set]
        show ((cur.toList.set (i * 2 + 1) v').toArray.toList).take _ = _
        rw [List.toList_toArray, List.take_set, h7]
      · obtain rfl : b = b' := by simpa [Value.ownBlock] using hb
        rw [oldG b hbl]; exact hGb
      · rw [hfs]
        refine ⟨by rw [List.length_set, List.length_set]; exact hya.1, fun j y' u' h8 h9 => ?_⟩
        by_cases e : j = i * 2 + 1
        · subst e
          rw [List.getElem?_set_self hjl] at h8
          rw [List.getElem?_set_self (by rw [← hya.1]; exact hjl)] at h9
          cases h8; cases h9
          exact hvP
        · rw [List.getElem?_set_ne (Ne.symm e)] at h8 h9
          exact (hya.2 j y' u' h8 h9).keep E.A
      · intro x hx'
        rcases List.mem_or_eq_of_mem_set hx' with h1 | h1
        · exact hyw x h1
        · rw [h1]; rfl
      · obtain rfl : b = b' := by simpa [Value.ownBlock] using hb
        rw [oldS b hbl]; exact hsb
      · have hy0 : ys[i * 2 + 1]? = some y := by
          have e1 := List.getElem?_eq_getElem hjl
          have e2 := ho.cells (g := b) rfl _ _ e1
          rw [Addr.add_mid, Nat.zero_add, hcell] at e2
          rw [e1, ← Option.some.inj e2]
        -- a block that another one owns
        have oldne : ∀ (j : Nat) y', ys[j]? = some y' → j % 2 = 1 → j ≠ i * 2 + 1 → ∀ b', y'.ownBlock = some b' → v'.ownBlock ≠ some b' ∧ y.ownBlock ≠ some b' ∧ b' ≠ b ∧ b' < w.heap.size := fun j y' h8 h9 h10 b' hb => by
          obtain ⟨⟨k, zs', h11, h12⟩, h13⟩ := hs2 rfl j y' h8 h9
          obtain ⟨h14, h15, _⟩ := h12 b' hb
          have hyn : y.ownBlock ≠ some b' := fun e => h10 (h13 _ y b' hy0 (by omega) e hb).symm
          have hlt := (M.own b' id h14).1
          refine ⟨fun e => ?_, hyn, fun e => ?_, hlt⟩
          · rcases hvown b' e with ⟨h16, _⟩ | h16
            · exact hyn h16
            · omega
          · rw [e, hsb] at h15; cases h15
        by_cases e : j = i * 2 + 1
        · subst e
          rw [List.getElem?_set_self hjl] at hy'
          cases hy'
          refine ⟨⟨us.length + 1, _, hv3, fun b' hb => ⟨?_, ?_, fun o ho' hA' => ?_⟩⟩, fun k z b' hz hk hzb hvb' => ?_⟩
          · rw [hg3]
            show (if v'.ownBlock = some b' then some id else g.G b') = _
            rw [if_pos hb]
          · rw [hg3]
            show (if v'.ownBlock = some b' then true else g.sub b') = _
            rw [if_pos hb]
          · rcases newA b' o hA' with h8 | ⟨_, h8⟩
            · rcases hvown b' hb with ⟨h9, _⟩ | h9
              · exact (hyb b' h9).2.2.1 o (by omega) h8
              · have := (M.imm b' o h8).1; omega
            · omega
          · refine Classical.byContradiction fun hne => ?_
            rw [List.getElem?_set_ne (Ne.symm hne)] at hz
            exact (oldne k z hz hk hne b' hzb).1 hvb'
        · rw [List.getElem?_set_ne (Ne.symm e)] at hy'
          obtain ⟨⟨k, zs', h11, h12⟩, h13⟩ := hs2 rfl j y' hy' hj
          refine ⟨⟨k, zs', ownsRow_ext h11 fun b' hb => ?_, fun b' hb => ?_⟩, fun k' z b' hz hk' hzb hyb' => ?_⟩
          · obtain ⟨h8, h9, h10, h14⟩ := oldne j y' hy' hj e b' hb
            exact keep b' h14 h10 h9
          · obtain ⟨h8, h9, h10, h14⟩ := oldne j y' hy' hj e b' hb
            obtain ⟨h15, h16, h17⟩ := h12 b' hb
            refine ⟨by rw [oldG b' h14]; exact h15, by rw [oldS b' h14]; exact h16, fun o ho' hA' => ?_⟩
            rcases newA b' o hA' with h18 | ⟨h18, _⟩
            · exact h17 o ho' h18
            · exact h8 h18
          · by_cases e2 : k' = i * 2 + 1
            · subst e2
              rw [List.getElem?_set_self hjl] at hz
              cases hz
              exact absurd hzb (oldne j y' hy' hj e b' hyb').1
            · rw [List.getElem?_set_ne (Ne.symm e2)] at hz
              exact h13 k' z b' hz hk' hzb hyb'
  refine ⟨g3, ?_, ?_, hrow⟩
  · refine ⟨fun k cs hk => ?_, fun k cs hk j u hj => ?_, fun k s p hk => ?_, fun b' k hk => ?_, fun b' o hA' => ?_, fun k et sz fz e xs2 hk => ?_, fun b' hs => ?_, fun b1 b2 k h1 h2 hs hs' => ?_⟩
    · have e' : k ≠ id := by rintro rfl; rw [List.getElem?_set_self hid] at hk; cases hk
      rw [List.getElem?_set_ne (Ne.symm e')] at hk
      obtain ⟨h1, cur, T, h2, h3⟩ := M.box k cs hk
      have hl : g3.loc k = g.loc k := by rw [hg3]; rfl
      exact ⟨by rw [hl, oldG _ (M.own _ _ h1).1]; exact h1, cur, T, by rw [hl, other _ _ h1 e']; exact h2, h3.ext E⟩
    · have e' : k ≠ id := by rintro rfl; rw [List.getElem?_set_self hid] at hk; cases hk
      rw [List.getElem?_set_ne (Ne.symm e')] at hk
      obtain ⟨h1, y', h2, h3⟩ := M.fbox k cs hk j u hj
      have hl : g3.loc k = g.loc k := by rw [hg3]; rfl
      exact ⟨by rw [hl]; exact upA _ _ h1, y', by rw [hl, hA _ _ h1]; exact h2, h3.keep E.A⟩
    · have e' : k ≠ id := by rintro rfl; rw [List.getElem?_set_self hid] at hk; cases hk
      rw [List.getElem?_set_ne (Ne.symm e')] at hk
      obtain ⟨h1, h2⟩ := M.iter k s p hk
      have hl : g3.loc k = g.loc k := by rw [hg3]; rfl
      exact ⟨by rw [hl, oldG _ (M.own _ _ h1).1]; exact h1, by rw [hl, other _ _ h1 e']; exact h2⟩
    · rw [List.length_set]
      rcases G3 b' k hk with ⟨h1, h2⟩ | ⟨h1, rfl⟩
      · exact ⟨Nat.lt_of_lt_of_le h1 hsz, (M.own b' k h2).2⟩
      · exact ⟨vlt b' h1, hid⟩
    · rcases newA b' o hA' with h1 | ⟨h1, h2⟩
      · have h3 := M.imm b' o h1
        refine ⟨Nat.lt_of_lt_of_le h3.1 hsz, fun k hk hs => ?_⟩
        rw [oldG b' h3.1] at hk
        rw [oldS b' h3.1] at hs
        obtain ⟨et, sz, e, xs2, h4, h5⟩ := h3.2 k hk hs
        have e' : k ≠ id := by rintro rfl; rw [h] at h4; cases h4
        exact ⟨et, sz, e, xs2, by rw [List.getElem?_set_ne (Ne.symm e')]; exact h4, h5⟩
      · refine ⟨vlt b' h1, fun k hk hs => ?_⟩
        rw [hg3] at hs
        have hs : (if v'.ownBlock = some b' then true else g.sub b') = false := hs
        rw [if_pos h1] at hs; cases hs
    · by_cases e' : k = id
      · subst e'
        rw [List.getElem?_set_self hid] at hk
        cases hk
        refine ⟨by omega, fun x hx' => ?_⟩
        rcases List.mem_or_eq_of_mem_set hx' with h1 | h1
        · exact hyw x h1
        · rw [h1]; rfl
      · rw [List.getElem?_set_ne (Ne.symm e')] at hk; exact M.roww k _ _ _ _ _ hk
    · rw [hg3] at hs
      have hs : (if v'.ownBlock = some b' then true else g.sub b') = true := hs
      split at hs
      · rename_i h1
        refine ⟨id, _, _, _, _, _, ?_, List.getElem?_set_self hid⟩
        rw [hg3]
        show (if v'.ownBlock = some b' then some id else g.G b') = _
        rw [if_pos h1]
      · obtain ⟨k, et, sz, fz, e, xs2, h1, h2⟩ := M.nsub b' hs
        have h3 : g3.G b' = some k := by rw [oldG b' (M.own b' k h1).1]; exact h1
        by_cases e' : k = id
        · subst e'
          exact ⟨k, _, _, _, _, _, h3, List.getElem?_set_self hid⟩
        · exact ⟨k, et, sz, fz, e, xs2, h3, by rw [List.getElem?_set_ne (Ne.symm e')]; exact h2⟩
    · have main : ∀ b' k, g3.G b' = some k → g3.sub b' = false → g.G b' = some k ∧ g.sub b' = false := fun b' k h1 h2 => by
        rw [hg3] at h1 h2
        have h1 : (if v'.ownBlock = some b' then some id else g.G b') = some k := h1
        have h2 : (if v'.ownBlock = some b' then true else g.sub b') = false := h2
        split at h2
        · cases h2
        · rename_i e
          rw [if_neg e] at h1
          exact ⟨h1, h2⟩
      exact M.uniq b1 b2 k (main b1 k h1 hs).1 (main b2 k h2 hs').1 (main b1 k h1 hs).2 (main b2 k h2 hs').2
  · have hr := setCells_rest b [v'] (i * 2 + 1) w2
    refine ⟨?_, ?_, ?_, hsz, fun b' h1 h2 => ?_, fun b' k hk => ?_, fun b' o hA' => ?_, E, by simp⟩
    · rw [hw3, hr.1, hg.os, hw1.os]
    · rw [hw3, hr.2.1, hg.tape, hw1.tape]
    · rw [hw3, hr.2.2, hg.output, hw1.output]
    · exact keep b' h1 (fun e => by rw [e, hGb] at h2; cases h2) (fun e => by rw [(hyb b' e).1] at h2; cases h2)
    · rcases G3 b' k hk with ⟨_, h2⟩ | ⟨h1, rfl⟩
      · exact .inl ⟨k, h2⟩
      · rcases hvown b' h1 with ⟨h2, _⟩ | h2
        · exact .inl ⟨_, (hyb b' h2).1⟩
        · exact .inr h2
    · rcases newA b' o hA' with h1 | ⟨h1, _⟩
      · exact .inl h1
      · rcases hvown b' h1 with ⟨h2, _⟩ | h2
        · exact .inr (.inl ⟨_, (hyb b' h2).1⟩)
        · exact .inr (.inr h2)
end
end Go.Proofs.Ytblafdmmebiagaa
namespace Go.Proofs.Ytblafdmmebiagaa
open Go.RowKit Go.Lib
section
variable {P : Program} {ops : Array Oper} {R : Exit → Act → World → Prop} {a : Act} {w w' : World} {i : Nat} {rest : List Nat} {o : Oper} {ty : Tys}
theorem wpOps_val {v : Value} (ho : ops[i]? = some o) (hg : o.guard = none) (hr : (execOp a.eval o).run P w = .ok (.value v) w') (h : wpOps P ops R rest (a.put o.dst v) w') : wpOps P ops R (i :: rest) a w := by
  unfold wpOps
  rw [ho]
  simp only [Region.wanted, hg, if_true]
  exact .inl (wp_ok hr h)
theorem wpOps_skip (ho : ops[i]? = some o) (hg : o.guard = none) (hr : (execOp a.eval o).run P w = .ok .skip w') (h : wpOps P ops R rest (a.put o.dst undef) w') : wpOps P ops R (i :: rest) a w := by
  unfold wpOps
  rw [ho]
  simp only [Region.wanted, hg, if_true]
  refine .inl ?_
  unfold Oper.wp
  rw [hr]
  exact h
theorem size_put (d : Nat) (v : Value) : (a.put (some d) v).tmps.size = a.tmps.size := by
  show (a.tmps.setIfInBounds d v).size = _
  simp
theorem eval_put {d : Nat} (h : d < a.tmps.size) (v : Value) (t : Nat) : (a.put (some d) v).eval (.tmp t) = if t = d then v else a.eval (.tmp t) := by
  show (a.tmps.setIfInBounds d v).getD t undef = if t = d then v else a.tmps.getD t undef
  by_cases e : t = d
  · subst e; simp [Array.getD_eq_getD_getElem?, h]
  · rw [if_neg e]
    simp only [Array.getD_eq_getD_getElem?]
    rw [Array.getElem?_setIfInBounds_ne (Ne.symm e)]
structure At (N : Nat) (a : Act) (f : Nat → Value) : Prop where
  defers : a.defers = []
  size : a.tmps.size = N
  ev : ∀ t, a.eval (.tmp t) = f t
theorem At.put {N : Nat} {f : Nat → Value} (h : At N a f) {d : Nat} (hd : d < N) (v : Value) : At N (a.put (some d) v) fun t => if t = d then v else f t :=
  ⟨h.defers, by rw [size_put]; exact h.size, fun t => by rw [eval_put (by rw [h.size]; exact hd)]; rw [h.ev]⟩
theorem run_move {x : Operand} (ho : o.op = .move x ∨ o.op = .assign x) : (execOp a.eval o).run P w = .ok (.value (a.eval x)) w := by
  rcases ho with ho | ho <;> simp only [execOp, ho] <;> rfl
theorem run_nilCheck' {x : Operand} {ad : Addr} (ho : o.op = .nilCheck x) (hv : a.eval x = .pointer (some ad)) : (execOp a.eval o).run P w = .ok (.value (.pointer (some ad))) w := by
  simp only [execOp, ho, hv] <;> rfl
theorem run_fieldAddr (hT : TyOk P ty) {T : Nat} {x : Operand} {f off t b u : Nat} (ho : o.op = .fieldAddr T x f) (hf : (tyLook T ty).flds[f]? = some (off, t)) (hfo : fOk ty t = true)
    (hv : a.eval x = .pointer (some ⟨b, u, none⟩)) : (execOp a.eval o).run P w = .ok (.value (.pointer (some ⟨b, u + off, none⟩))) w := by
  obtain ⟨fs, fd, h1, h2, h3⟩ := (ty_fld hT hf).strct' hf
  obtain ⟨rfl, rfl⟩ : off = fd.offset ∧ t = fd.type := by simpa using h3
  simp only [fOk, Bool.and_eq_true, bne_iff_ne, ne_eq] at hfo
  have hs := (ty_ok hT hfo.1).size w
  simp only [execOp, ho]
  refine run_valW ?_
  rw [hv]
  simp [Instr.fieldAt, run_underlying h1, h2, Instr.sureAddr, fieldPlace, hs, hfo.2, Addr.add_mid]
theorem run_load1 (hT : TyOk P ty) {T : Nat} {x : Operand} {b u : Nat} {y : Value} (ho : o.op = .load T x) (hok : (tyLook T ty).ok = true) (hag : (tyLook T ty).agg = false)
    (hv : a.eval x = .pointer (some ⟨b, u, none⟩)) (hc : w.cell? ⟨b, u, none⟩ = some y) : (execOp a.eval o).run P w = .ok (.value y) w := by
  have := (ty_ok hT hok).isAgg w
  rw [hag] at this
  simp only [execOp, ho]
  refine run_valW ?_
  rw [hv]
  simp [Instr.loadAt, Instr.sureAddr, loadVar, this, hc]
theorem run_store1 (hT : TyOk P ty) {T : Nat} {x y : Operand} {b u : Nat} {v : Value} (ho : o.op = .store T x y) (hok : (tyLook T ty).ok = true) (hsz : (tyLook T ty).size = 1)
    (hv : a.eval x = .pointer (some ⟨b, u, none⟩)) (hy : a.eval y = v) (h1 : v.oneCell' = true) {z : Value} (hc : w.cell? ⟨b, u, none⟩ = some z) (hf : w.frozen? ⟨b, u, none⟩ = false) :
    (execOp a.eval o).run P w = .ok .skip (w.setCells b u [v]) := by
  have hst := run_storeCells_cells (P := P) b u [v] 0 w (fun j hj => by
    obtain rfl : j = 0 := by simpa using hj
    show (w.cell? ⟨b, u, none⟩).isSome = true
    rw [hc]; rfl) (fun j hj => by
    obtain rfl : j = 0 := by simpa using hj
    exact hf) (fun v' hv' => by
    obtain rfl : v' = v := by simpa using hv'
    exact h1)
  rw [Nat.add_zero] at hst
  have hsT := (ty_ok hT hok).size w
  rw [hsz] at hsT
  have hcl : v.cells = #[v] := one_cells h1
  simp only [execOp, ho, Instr.storeAt, hv, hy, Instr.sureAddr, storeVar, Sem.run_bind, Sem.run_pure, Result.andThen_ok, hsT, hcl]
  simp [hst]
theorem run_app {x y : Operand} {T U : Nat} {v : Value} (ho : o.op = .call { callee := .builtin .append, args := #[x, y], argTypes := #[T, U] }) (hr : (Builtin.append_ #[T, U] o.type #[a.eval x, a.eval y]).run P w = .ok v w') :
    (execOp a.eval o).run P w = .ok (.value v) w' := by
  obtain ⟨cs, hc⟩ := exec_builtin (P := P) (a := a) ho w
  rw [hc]
  show (do pure (Next.value (← Builtin.append_ #[T, U] o.type (Array.map a.eval #[x, y]))) : Sem Next).run P w = _
  refine run_valW ?_
  simpa using hr
end
section
variable {w0 : World} {g0 : Gh} {o0 : List Ob}
theorem setCells_same {w : World} {b o : Nat} {v : Value} {cur : Array Value} {T : TypeId} {fr : Nat × Nat} (h : w.heap[b]? = some (.cells cur T fr)) (hv : cur[o]? = some v) : w.setCells b o [v] = w := by
  have e : cur.setIfInBounds o v = cur := by
    apply Array.ext'
    refine List.ext_getElem? fun j => ?_
    rw [Array.getElem?_toList, Array.getElem?_toList, Array.getElem?_setIfInBounds]
    split
    · rename_i e; subst e
      split
      · exact hv.symm
      · rename_i hn; rw [Array.getElem?_eq_none (by omega)]
    · rfl
  show ({ w with heap := _ } : World) = w
  have e2 : (w.heap.modify b fun
      | .cells c elem frozen => .cells (if (none : Option Nat).isSome then c else c.setIfInBounds o v) elem frozen
      | o => o) = w.heap := by
    apply Array.ext'
    refine List.ext_getElem? fun j => ?_
    rw [Array.getElem?_toList, Array.getElem?_toList, Array.getElem?_modify]
    split
    · rename_i e3; subst e3
      rw [h]
      simp [e]
    · rfl
  exact congrArg (fun x => ({ w with heap := x } : World)) e2
theorem sim_start {ob : List Ob} {args : List AV} {g : Gh} {w : World} {vs : List Value} {N : Nat} (M : Mem w g ob) (hL : ARelL w g ob vs args) (hn : args.length ≤ N) :
    Sim w g ob N ⟨ent 0 args, ob⟩ { tmps := vs.toArray ++ Array.replicate (N - vs.toArray.size) undef, defers := [] } w := by
  have hlen : vs.length = args.length := hL.1
  refine ⟨rfl, ?_, g, M, fun t => ?_, Step.refl⟩
  · simp; omega
  · show ARel w g ob _ (lk t (ent 0 args))
    rw [lk_ent]
    simp only [Nat.zero_le, if_true, Nat.sub_zero]
    by_cases ht : t < args.length
    · rw [List.getD_eq_getElem?_getD, List.getElem?_eq_getElem ht, Option.getD_some]
      have e : (vs.toArray ++ Array.replicate (N - vs.toArray.size) undef).getD t undef = vs[t]'(by omega) := by
        rw [Array.getD_eq_getD_getElem?, Array.getElem?_append_left (by simp; omega)]
        simp [show t < vs.length by omega]
      rw [e]
      exact (hL.2 t _ _ (List.getElem?_eq_getElem (by omega)) (List.getElem?_eq_getElem ht)).to
    · rw [List.getD_eq_getElem?_getD, List.getElem?_eq_none (by omega)]
      trivial
end
theorem results_none {P : Program} {fn : Func} (h : fn.results = #[]) (tmps : Array Value) (w : World) : (results fn tmps).run P w = .ok (.tuple #[]) w := by
  simp [results, h]
noncomputable def kidR0 : Code := match Try.f28.body with | some (.seq c _) => c | _ => .skip
noncomputable def kidR1 : Code := match Try.f28.body with | some (.seq _ c) => c | _ => .skip
def kidQ (ob : List Ob) (k : Nat) (i n : Int) (e : Ex) (s : St) : Prop := e = .normal ∧ s.ob = ob ∧ lk 4 s.tm = .rptr k 0 i 0 ∧ lk 1 s.tm = .val (.int .i64 n)
set_option maxRecDepth 20000 in
set_option maxHeartbeats 4000000 in
theorem kid_any {ob : List Ob} {k : Nat} {bs tp : AV} {xs : List AV} (hb : ob[0]? = some (.box [bs, tp, .row k 0])) (hk : ob[k]? = some (.row subT 2 false 0 xs)) {i n : Int}
    (hr0 : ∀ w0 g0, (aexec std tys cs0 (fun _ => .nil) kidR0 (fun e s => .leaf e s) ⟨ent 0 [.box 0 0, .val (.int .i64 n)], ob⟩).ok Try.prog w0 g0 ob 26 (kidQ ob k i n))
    {a u : AV} {us : List AV} (hi : 0 ≤ i) (hx : xs[i.toNat]? = some (.agg [a, u])) (hu : u = .slc 1 us ∨ (u = .val (.slice none 0 0) ∧ us = [])) (hul : us.length ≤ 1000000) :
    BCall Try.prog 28 [.box 0 0, .val (.int .i64 n)] ob (.tup []) ((ob.set k (.row subT 2 false 1 (xs.set i.toNat (.agg [a, .slc 1 (us ++ [.val (.int .i64 n)])])))).set 0 (.box [bs, tp, .row k 1])) := by
  refine ⟨enters_of Try.func28 (by kernel_rfl) rfl, fun w0 g0 vs M0 hL => calls_of_wp Try.func28 (c := .seq kidR0 kidR1) rfl ?_⟩
  refine wp_seq (aexec_sound (w0 := w0) (g0 := g0) (o0 := ob) (N := 26) (Q := kidQ ob k i n) (cs := cs0) (ord := fun _ => .nil) tyOk (by kernel_rfl) kidR0 (fun e s => .leaf e s) _ ⟨ent 0 [.box 0 0, .val (.int .i64 n)], ob⟩ _ w0 (by kernel_rfl) (by kernel_rfl) (fun c a d v w h => h) (fun e s ac w hs hq => ?_) (sim_start M0 hL (Nat.le_of_ble_eq_true rfl)) (hr0 w0 g0))
  obtain ⟨rfl, hob, h4, h1⟩ := (show kidQ ob k i n e s from hq)
  show kidR1.wp _ _ ac w
  refine wp_region ?_
  show wpOps _ _ _ [0, 1, 2, 3, 4, 5, 6, 7, 8, 9, 10] ac w
  obtain ⟨hdf, hsz, g, M, hS, h0⟩ := hs
  rw [hob] at M h0
  have hk0 : k ≠ 0 := by rintro rfl; rw [hb] at hk; cases hk
  -- what the slots hold
  have hp := hS 4
  rw [h4, hob] at hp
  obtain ⟨_, et, sz, fz, ee, xs', hob', _, hp2⟩ := (show ARel0 w g ob _ (.rptr k 0 i 0) from hp)
  rw [hk] at hob'
  cases hob'
  obtain ⟨b, c, hpv, _, hil, hRV⟩ := hp2 rfl
  have hn := hS 1
  rw [h1] at hn
  have hnv := hn.valEq
  -- the maker's box
  obtain ⟨hG0, cur, T0, hh0, hc0⟩ := M.box 0 _ hb
  have hcl : cur.toList.length = 3 := hc0.1
  obtain ⟨v, hv⟩ : ∃ v, cur.toList[2]? = some v := ⟨_, List.getElem?_eq_getElem (by omega)⟩
  obtain ⟨⟨hv1, et, sz, fz, ee, xs', hob', _, hv2⟩, _⟩ := hc0.2 2 v (.row k 0) hv rfl
  rw [hk] at hob'
  cases hob'
  have hRB := hv2 rfl
  obtain ⟨ysP, hoP, hGP, _, _, hsP, _⟩ := hRV
  obtain ⟨ysB, hoB, hGB, _, _, hsB, _⟩ := (show RowV w g k subT 2 v xs from hRB)
  rcases hoB.2 with ⟨_, h00⟩ | ⟨bB, cap, curB, rfl, _, hhB, _, _, _, _⟩
  · omega
  obtain rfl : b = bB := M.uniq _ _ k (hGP b rfl) (hGB bB rfl) (hsP b rfl) (hsB bB rfl)
  obtain ⟨y, zs, hcell, hown, hone, hal, hus, hyb⟩ := kid_get M hk hRB hx hu
  have hGb := hGB b rfl
  have hbl := (M.own b k hGb).1
  have hyne : y.ownBlock ≠ some b := fun e => by
    have := (hyb b e).2.1
    rw [hsB b rfl] at this; cases this
  have h0ne : g.loc 0 ≠ b := fun e => by
    rw [e, hGb] at hG0
    exact hk0 (Option.some.inj hG0)
  have h0ny : y.ownBlock ≠ some (g.loc 0) := fun e => by
    have := (hyb _ e).1
    rw [hG0] at this
    exact hk0 (Option.some.inj this).symm
  -- one operation after the other
  have A0 : At 26 ac (fun t => ac.eval (.tmp t)) := ⟨hdf, hsz, fun _ => rfl⟩
  have e4 : ac.eval (.tmp 4) = .pointer (some ⟨b, i.toNat * 2 + 0, none⟩) := hpv
  have e1 : ac.eval (.tmp 1) = .int .i64 n := hnv
  generalize hPV : Value.pointer (some ⟨b, i.toNat * 2 + 0, none⟩) = PV at e4
  refine wpOps_val rfl rfl (run_move (x := .tmp 4) (.inl rfl)) ?_
  rw [e4]
  show wpOps _ _ _ [1, 2, 3, 4, 5, 6, 7, 8, 9, 10] (ac.put (some 16) PV) w
  have A1 := A0.put (d := 16) (by decide) PV
  generalize ac.put (some 16) PV = a1 at A1 ⊢
  refine wpOps_val rfl rfl (run_move (x := .tmp 4) (.inl rfl)) ?_
  rw [show a1.eval (.tmp 4) = PV by rw [A1.ev]; exact e4]
  show wpOps _ _ _ [2, 3, 4, 5, 6, 7, 8, 9, 10] (a1.put (some 17) PV) w
  have A2 := A1.put (d := 17) (by decide) PV
  generalize a1.put (some 17) PV = a2 at A2 ⊢
  refine wpOps_val rfl rfl (run_nilCheck' (x := .tmp 17) (ad := ⟨b, i.toNat * 2 + 0, none⟩) rfl (by rw [A2.ev, hPV]; rfl)) ?_
  rw [hPV]
  show wpOps _ _ _ [3, 4, 5, 6, 7, 8, 9, 10] (a2.put (some 18) PV) w
  have A3 := A2.put (d := 18) (by decide) PV
  generalize a2.put (some 18) PV = a3 at A3 ⊢
  refine wpOps_val rfl rfl (run_fieldAddr tyOk (x := .tmp 18) (off := 1) (t := 25) rfl (by kernel_rfl) (by kernel_rfl) (b := b) (u := i.toNat * 2 + 0) (by rw [A3.ev, hPV]; rfl)) ?_
  rw [Nat.add_zero]
  generalize hFV : Value.pointer (some ⟨b, i.toNat * 2 + 1, none⟩) = FV
  show wpOps _ _ _ [4, 5, 6, 7, 8, 9, 10] (a3.put (some 19) FV) w
  have A4 := A3.put (d := 19) (by decide) FV
  generalize a3.put (some 19) FV = a4 at A4 ⊢
  refine wpOps_val rfl rfl (run_load1 tyOk (x := .tmp 19) rfl (by kernel_rfl) (by kernel_rfl) (b := b) (u := i.toNat * 2 + 1) (by rw [A4.ev, hFV]; rfl) hcell) ?_
  show wpOps _ _ _ [5, 6, 7, 8, 9, 10] (a4.put (some 20) y) w
  have A5 := A4.put (d := 20) (by decide) y
  generalize a4.put (some 20) y = a5 at A5 ⊢
  refine wpOps_val rfl rfl (run_move (x := .tmp 1) (.inl rfl)) ?_
  rw [show a5.eval (.tmp 1) = .int .i64 n by rw [A5.ev]; exact e1]
  generalize hNV : Value.int .i64 n = NV
  show wpOps _ _ _ [6, 7, 8, 9, 10] (a5.put (some 21) NV) w
  have A6 := A5.put (d := 21) (by decide) NV
  generalize a5.put (some 21) NV = a6 at A6 ⊢
  -- the slice of one number
  obtain ⟨e, hu25, hee, te, hes, _⟩ := el_facts tyOk (T := 25) (sz := 1) (by kernel_rfl)
  obtain ⟨ie, z, hie, hies, hieb, hiz, hzc⟩ := te.i
  have hek : e = kidT := hee.trans (by kernel_rfl)
  rw [hes] at hies
  have hzs : z.cells.size = 1 := by
    have := congrArg List.length hzc
    rw [Array.length_toList, te.zl, hes] at this
    exact this
  have hN1 : NV.cells = #[NV] := by rw [← hNV]; rfl
  obtain ⟨c', hf, hc'⟩ := fillDense (sz := 1) [NV] 0 ((Array.range (1 * 1)).map (z.cells[· % z.cells.size]!)) (fun v' hv' => by
    obtain rfl : v' = NV := by simpa using hv'
    rw [hN1]; rfl) (by simp)
  obtain rfl : c' = #[NV] := by
    apply Array.ext'
    rw [hc']
    simp [hN1]
  have hrB : (Instr.buildSlice 25 1 #[(0, NV)]).run Try.prog w = .ok (.slice (some ⟨w.heap.size, 0, none⟩) 1 1) (w.alloc (.cells #[NV] e)) :=
    run_buildSlice w 25 e 1 _ _ ie z hu25 hie hiz (by rw [hies]; decide) (by rw [hies]; decide) (by rw [hies]; exact hf)
  refine wpOps_val (w' := w.alloc (.cells #[NV] e)) (v := .slice (some ⟨w.heap.size, 0, none⟩) 1 1) rfl rfl (by
    simp only [execOp]
    refine run_valW ?_
    have : (#[(0, Operand.tmp 21)].map fun (x : Nat × Operand) => (x.1, a6.eval x.2)) = #[(0, NV)] := by
      simp [A6.ev]
    rw [← this] at hrB
    exact hrB) ?_
  have hhN : (w.alloc (.cells #[NV] e)).heap[w.heap.size]? = some (.cells #[NV] e (0, 0)) := heap_new w _
  have hB1 : Below w.heap.size w (w.alloc (.cells #[NV] e)) := (Below.refl _ w).alloc (Nat.le_refl _) _
  have hold : ∀ b', b' < w.heap.size → (w.alloc (.cells #[NV] e)).heap[b']? = w.heap[b']? := fun b' h => heap_old h
  generalize hSV : Value.slice (some ⟨w.heap.size, 0, none⟩) 1 1 = SV
  show wpOps _ _ _ [7, 8, 9, 10] (a6.put (some 22) SV) _
  generalize w.alloc (.cells #[NV] e) = w1 at hhN hB1 hold ⊢
  have A7 := A6.put (d := 22) (by decide) SV
  generalize a6.put (some 22) SV = a7 at A7 ⊢
  obtain ⟨v', w2, hrA, ho2, hg, hvb, hc2⟩ := append_any (P := Try.prog) (w := w1) (t := 25) (u := 25) (ty := 25) hu25 hu25 (.inl ⟨_, rfl⟩) hie hiz hies (by rw [hieb]; exact te.by_) hzs
    (ownsRow_ext (hek ▸ hown) fun b' hb' => hold b' (hyb b' hb').2.2.2) (x := SV) (m := 1) (news := [NV]) rfl (fun W => by rw [← hSV]; rfl)
    (fun W hW => by
      rw [← hSV]
      refine run_firstCells_some (P := Try.prog) W 1 1 _ _ _ [NV] rfl (fun j u hj => ?_)
      cases j with
      | zero =>
        obtain rfl : NV = u := by simpa using hj
        show W.cell? ⟨w.heap.size, 0 + 0, none⟩ = _
        simp [World.cell?, hW, hhN]
      | succ j => simp at hj) (fun u hu => by
      obtain rfl : u = NV := by simpa using hu
      rw [← hNV]; rfl) (by omega)
  refine wpOps_val rfl rfl (run_app (x := .tmp 20) (y := .tmp 22) rfl (by
    rw [show a7.eval (.tmp 20) = y by rw [A7.ev]; rfl, show a7.eval (.tmp 22) = SV by rw [A7.ev]; rfl]
    exact hrA)) ?_
  show wpOps _ _ _ [8, 9, 10] (a7.put (some 23) v') w2
  have A8 := A7.put (d := 23) (by decide) v'
  generalize a7.put (some 23) v' = a8 at A8 ⊢
  refine wpOps_val rfl rfl (run_nilCheck' (x := .tmp 16) (ad := ⟨b, i.toNat * 2 + 0, none⟩) rfl (by rw [A8.ev, hPV]; rfl)) ?_
  rw [hPV]
  show wpOps _ _ _ [9, 10] (a8.put (some 24) PV) w2
  have A9 := A8.put (d := 24) (by decide) PV
  generalize a8.put (some 24) PV = a9 at A9 ⊢
  refine wpOps_val rfl rfl (run_fieldAddr tyOk (x := .tmp 24) (off := 1) (t := 25) rfl (by kernel_rfl) (by kernel_rfl) (b := b) (u := i.toNat * 2 + 0) (by rw [A9.ev, hPV]; rfl)) ?_
  rw [Nat.add_zero, hFV]
  show wpOps _ _ _ [10] (a9.put (some 25) FV) w2
  have A10 := A9.put (d := 25) (by decide) FV
  generalize a9.put (some 25) FV = a10 at A10 ⊢
  have hh2 : w2.heap[b]? = w.heap[b]? := by
    rw [hg.block b (Nat.lt_of_lt_of_le hbl hB1.size) (fun e => hyne e.symm), hold b hbl]
  have hv'1 : v'.oneCell' = true := by
    rcases ho2.2 with ⟨_, h00⟩ | ⟨b', cap', cur', rfl, _⟩
    · omega
    · rfl
  refine wpOps_skip (w' := w2.setCells b (i.toNat * 2 + 1) [v']) rfl rfl (run_store1 tyOk (x := .tmp 25) (y := .tmp 23) rfl (by kernel_rfl) (by kernel_rfl) (by rw [A10.ev, hFV]; rfl) (by rw [A10.ev]; rfl) hv'1 (z := y)
    (by rw [World.cell?_of_block (w := w) hh2]; exact hcell) (by simp [World.frozen?, hh2, hhB])) ?_
  obtain ⟨g3, M3, S3, R3⟩ := kid_set M hk hRB hx hcell hown hal hus hyb (n := n) hB1 (hNV ▸ hek ▸ ho2) hg hvb hc2
  generalize hw3 : w2.setCells b (i.toNat * 2 + 1) [v'] = w3 at M3 S3 R3 ⊢
  have hb3 : (ob.set k (.row subT 2 false (0 + 1) (xs.set i.toNat (.agg [a, .slc 1 (us ++ [.val (.int .i64 n)])]))))[0]? = some (.box [bs, tp, .row k 0]) := by
    rw [List.getElem?_set_ne hk0]; exact hb
  have hl0 : g3.loc 0 = g.loc 0 := S3.ext.loc 0 (lt_of_some hb)
  have hh3 : w3.heap[g.loc 0]? = some (.cells cur T0 (0, 0)) := by
    have hlt := (M.own _ _ hG0).1
    rw [← hw3, cell_setCells (k := 0) h0ne, hg.block _ (Nat.lt_of_lt_of_le hlt hB1.size) (fun e => h0ny e.symm), hold _ hlt]
    exact hh0
  have M4 := M3.store hb3 (off := 2) (vs := [Value.slice (some ⟨b, 0, none⟩) xs.length cap]) (us := [.row k 1]) ⟨rfl, fun j y' u' hy' hu' => by
    cases j with
    | zero =>
      obtain rfl : Value.slice (some ⟨b, 0, none⟩) xs.length cap = y' := by simpa using hy'
      obtain rfl : AV.row k 1 = u' := by simpa using hu'
      exact ⟨⟨rfl, subT, 2, false, 1, _, List.getElem?_set_self (lt_of_some hk), Nat.le_refl _, fun _ => by
        have hlx : (xs.set i.toNat (.agg [a, .slc 1 (us ++ [.val (.int .i64 n)])])).length = xs.length := by rw [List.length_set]
        exact R3⟩, rfl⟩
    | succ j => simp at hy'⟩ (Nat.le_refl _)
  have S4 := Step.store M3 hb3 2 [Value.slice (some ⟨b, 0, none⟩) xs.length cap] [bs, tp, .row k 1]
  rw [hl0, setCells_same hh3 (by rw [← Array.getElem?_toList]; exact hv)] at M4 S4
  show bodyPost _ _ _ .normal _ _
  subst hNV
  exact ⟨A10.defers, _, results_none rfl _ _, _, g3, rfl, M4, ⟨#[], rfl, rfl, fun j y' u' h => by simp at h⟩, (h0.trans S3).trans S4⟩
end Go.Proofs.Ytblafdmmebiagaa
namespace Go.Proofs.Ytblafdmmebiagaa
open Go.RowKit Go.Lib
def tvalF (l : List Int) : Int := if l.getD 0 0 = 34 ∨ l.getD 0 0 = 39 then (match (l.drop 1).findIdx? (· == l.getD 0 0) with | some k => k + 2 | none => 0) else 0
theorem tvalF_hit {l : List Int} {i : Int} (hq : l.getD 0 0 = 34 ∨ l.getD 0 0 = 39) (h1 : 1 ≤ i) (h2 : i < l.length) (h3 : ∀ j : Int, 1 ≤ j → j < i → l.getD j.toNat 0 ≠ l.getD 0 0) (h4 : l.getD i.toNat 0 = l.getD 0 0) : tvalF l = i + 1 := by
  have hk : i.toNat - 1 < (l.drop 1).length := by simp; omega
  have e : (l.drop 1).findIdx? (· == l.getD 0 0) = some (i.toNat - 1) := by
    rw [List.findIdx?_eq_some_iff_getElem]
    refine ⟨hk, ?_, fun j hj => ?_⟩
    · have h5 : 1 + (i.toNat - 1) = i.toNat := by omega
      have h6 : i.toNat < l.length := by omega
      simp only [List.getElem_drop, h5, beq_iff_eq]
      rw [← h4, List.getD_eq_getElem?_getD, List.getElem?_eq_getElem h6]; rfl
    · have h6 : j + 1 < l.length := by omega
      have h7 := h3 ((j + 1 : Nat) : Int) (by omega) (by omega)
      rw [Int.toNat_natCast, List.getD_eq_getElem?_getD, List.getElem?_eq_getElem h6] at h7
      simpa [List.getElem_drop] using h7
  simp only [tvalF, if_pos hq, e]
  omega
theorem tvalF_miss {l : List Int} (h3 : ∀ j : Int, 1 ≤ j → j < l.length → l.getD j.toNat 0 ≠ l.getD 0 0) : tvalF l = 0 := by
  have e : (l.drop 1).findIdx? (· == l.getD 0 0) = none := by
    rw [List.findIdx?_eq_none_iff]
    intro x hx
    obtain ⟨j, hj, rfl⟩ := List.mem_iff_getElem.1 hx
    have h6 : j + 1 < l.length := by simp at hj; omega
    have h7 := h3 ((j + 1 : Nat) : Int) (by omega) (by omega)
    rw [Int.toNat_natCast, List.getD_eq_getElem?_getD, List.getElem?_eq_getElem h6] at h7
    simpa [List.getElem_drop] using h7
  simp only [tvalF, e]
  split <;> rfl
theorem value_b (l : List Int) (hl : l ≠ []) (hmax : l.length ≤ 1000000000) : BCall Try.prog 87 [.slc 1 (runesA l)] [] (.val (.int .i64 (tvalF l))) [] := by
  refine bcall_of (cs := cs0) (ord := fun _ => .nil) tyOk (by kernel_rfl) Try.func87 rfl (enters_of Try.func87 (by kernel_rfl) rfl) (Nat.le_of_ble_eq_true rfl) (by kernel_rfl) (by kernel_rfl) ?_
  intro w0 g0
  generalize hp : std = p
  generalize hx : runesA l = xs
  generalize hT : aexec p tys cs0 _ _ _ _ = T
  cbv at hT
  subst hT
  simp only [Tree.ok]
  subst hp hx
  have hpos : 0 < l.length := List.length_pos_iff.2 hl
  have hlen := runes_len l
  have a0 : (runesA l)[0]?.getD .dead = .val (.int .i32 (l[0]?.getD 0)) := runes_at (i := 0) (Int.le_refl 0) (by omega)
  refine ⟨?_, ?_, fun h1 => ⟨?_, ?_, fun h2 => .pure rfl (.inl ?_), fun h2 => ?_⟩, fun h1 => ?_⟩
  · simp [std, hlen, hpos]
  · simp [std, allP, a0, AV.cells, intOf]
  · simp [std, hlen, hpos]
  · simp [std, allP, a0, AV.cells, intOf]
  · simp [std, a0, AV.cells, intOf] at h1 h2
    simp [tvalF, h1, h2]
  all_goals
    have hq : l.getD 0 0 = 34 ∨ l.getD 0 0 = 39 := by
      first
        | (simp [std, a0, AV.cells, intOf] at h2; exact .inr h2)
        | (simp [std, a0, AV.cells, intOf] at h1; exact .inl h1)
    refine loop_rule (cs := cs0) (ord := fun _ => .nil) tyOk (by kernel_rfl) (by kernel_rfl) (by kernel_rfl) (X := Int) (fun i => ⟨[(0, .slc 1 (runesA l)), (3, .val (.int .i64 i))], []⟩)
      (fun i => 1 ≤ i ∧ i ≤ l.length ∧ ∀ j : Int, 1 ≤ j → j < i → l.getD j.toNat 0 ≠ l.getD 0 0) (fun i => (l.length - i).toNat) 1 ⟨by omega, by omega, fun j h1 h2 => by omega⟩ ⟨[], _, rfl, ?_⟩ ?_
    · exact ⟨rfl, rfl, trivial⟩
    · rintro i ⟨hi1, hi2, hi3⟩
      clear h1
      generalize hp : std = p
      generalize hx : runesA l = xs
      generalize hT : aexec p tys cs0 _ _ _ _ = T
      cbv at hT
      subst hT
      simp only [Tree.ok, RoundOk]
      subst hp hx
      refine ⟨fun h1 => ?_, fun h1 => ?_⟩
      · have h1 : i < l.length := by simpa [std, hlen] using h1
        have ai := runes_at (l := l) (i := i) (by omega) h1
        refine ⟨?_, ?_, ?_, ?_, fun h2 => ⟨?_, ?_⟩, fun h2 => ⟨?_, i + 1, ⟨?_, ?_, fun j h3 h4 => ?_⟩, ?_, [], _, rfl, ?_⟩⟩
        · simp [std, hlen]; omega
        · simp [std, allP, ai, AV.cells, intOf]
        · simp [std, hlen, hpos]
        · simp [std, allP, a0, AV.cells, intOf]
        · show (-9223372036854775808 : Int) ≤ _ ∧ _ ≤ (9223372036854775807 : Int)
          simp [std]; omega
        · generalize hp : std = p
          generalize hx : runesA l = xs
          generalize hT : endK p tys _ _ _ _ = T
          cbv at hT
          subst hT
          subst hp hx
          refine FinOk.pure rfl (.inl ?_)
          have e : l.getD i.toNat 0 = l.getD 0 0 := by simpa [std, ai, a0, AV.cells, intOf] using h2
          rw [tvalF_hit hq hi1 h1 hi3 e]
          rfl
        · show (-9223372036854775808 : Int) ≤ _ ∧ _ ≤ (9223372036854775807 : Int)
          simp [std]; omega
        · show (1 : Int) ≤ i + 1
          omega
        · show i + 1 ≤ (l.length : Int)
          omega
        · by_cases hji : j = i
          · subst hji
            simpa [std, ai, a0, AV.cells, intOf] using h2
          · exact hi3 j h3 (by omega)
        · show ((l.length : Int) - (i + 1)).toNat < ((l.length : Int) - i).toNat
          omega
        · exact ⟨rfl, rfl, trivial⟩
      · have h1 : ¬ i < l.length := by simpa [std, hlen] using h1
        generalize hp : std = p
        generalize hx : runesA l = xs
        generalize hT : aexec p tys cs0 _ _ _ _ = T
        cbv at hT
        subst hT hp hx
        rw [if_pos trivial]
        refine FinOk.pure rfl (.inl ?_)
        rw [tvalF_miss (l := l) (fun j h3 h4 => hi3 j h3 (Int.lt_of_lt_of_le h4 (Int.not_lt.1 h1)))]
end Go.Proofs.Ytblafdmmebiagaa
namespace Go.Proofs.Ytblafdmmebiagaa
open Go.RowKit Go.Lib
structure TPart where
  kind : Int
  from_ : Int
  to : Int
  deriving Inhabited
def TPart.av (x : TPart) : AV := .agg [.val (.int .i64 x.kind), .val (.int .i64 x.from_), .val (.int .i64 x.to)]
def tpartsA (l : List TPart) : List AV := l.map TPart.av
def tpart0 : TPart := ⟨0, 0, 0⟩
theorem tparts_len (l : List TPart) : (tpartsA l).length = l.length := by simp [tpartsA]
theorem tparts_app (a b : List TPart) : tpartsA (a ++ b) = tpartsA a ++ tpartsA b := by simp [tpartsA]
theorem tparts_one (x : TPart) : tpartsA [x] = [.agg [.val (.int .i64 x.kind), .val (.int .i64 x.from_), .val (.int .i64 x.to)]] := rfl
theorem tparts_at {l : List TPart} {i : Int} (h0 : 0 ≤ i) (h1 : i < l.length) : (tpartsA l)[i.toNat]?.getD .dead = (l[i.toNat]?.getD tpart0).av := getA TPart.av h0 h1 tpart0
def takesOk (l : List TPart) (a : Nat) (ks : List Int) : Bool := ((l.drop a).take ks.length).map TPart.kind == ks
theorem takes_iff {l : List TPart} {a : Nat} {ks : List Int} (ha : a ≤ l.length) : takesOk l a ks = true ↔ (a + ks.length ≤ l.length ∧ ∀ j, j < ks.length → (l[a + j]?.getD tpart0).kind = ks[j]?.getD 0) := by
  have at_ : a + ks.length ≤ l.length → ∀ j, j < ks.length → (((l.drop a).take ks.length).map TPart.kind)[j]? = some (l[a + j]?.getD tpart0).kind := fun h j hj => by
    have h1 : a + j < l.length := by omega
    simp [List.getElem?_take, List.getElem?_drop, hj, h1]
  rw [takesOk, beq_iff_eq]
  constructor
  · intro h
    have h1 : a + ks.length ≤ l.length := by
      have := congrArg List.length h
      simp only [List.length_map, List.length_take, List.length_drop] at this
      omega
    refine ⟨h1, fun j hj => ?_⟩
    have h2 := at_ h1 j hj
    rw [h] at h2
    rw [h2]; rfl
  · rintro ⟨h1, h2⟩
    refine List.ext_getElem? fun j => ?_
    by_cases hj : j < ks.length
    · rw [at_ h1 j hj, h2 j hj, List.getElem?_eq_getElem hj]; rfl
    · rw [List.getElem?_eq_none (by simp; omega), List.getElem?_eq_none (by omega)]
set_option maxRecDepth 20000 in
set_option maxHeartbeats 2000000 in
theorem takes_any (l : List TPart) (hl : l.length ≤ 1000000000) (a : Int) (h0 : 0 ≤ a) (h1 : a ≤ l.length) (ks : List Int) (hk : ks.length ≤ 10) (res : AV) (a' : Int)
    (hhit : takesOk l a.toNat ks = true → res = .slc 3 (tpartsA ((l.drop a.toNat).take ks.length)) ∧ a' = a + ks.length) (hmiss : takesOk l a.toNat ks = false → res = .val (.slice none 0 0) ∧ a' = a) :
    BCall Try.prog 59 [.box 0 0, .slc 1 (intsA ks)] [.box [.slc 3 (tpartsA l), .val (.int .i64 a)]] res [.box [.slc 3 (tpartsA l), .val (.int .i64 a')]] := by
  obtain ⟨n, hn⟩ := exLen l
  obtain ⟨m, hm⟩ := exLen ks
  refine bcall_of (cs := cs0) (ord := fun _ => .nil) tyOk (by kernel_rfl) Try.func59 rfl (enters_of Try.func59 (by kernel_rfl) rfl) (Nat.le_of_ble_eq_true rfl) (by kernel_rfl) (by kernel_rfl) ?_
  intro w0 g0
  have hpl := tparts_len l
  have hkl := ints_len ks
  have hiff := takes_iff (l := l) (a := a.toNat) (ks := ks) (by omega)
  generalize hp : std = p
  generalize hps : tpartsA l = ps
  generalize hkv : intsA ks = kv
  generalize hT : aexec p tys (cs0) _ _ _ _ = T
  cbv at hT
  subst hT
  simp only [Tree.ok, RoundOk, Bool.false_eq_true, Bool.true_eq_false, false_implies, true_implies, and_true, true_and]
  subst hp hps hkv
  have en := hn.eq
  have em := hm.eq
  replace h1 : a ≤ (l.length : Int) := h1
  refine ⟨?_, fun h => ?_, fun h => ?_⟩
  · refine (inR64 _).2 ?_
    simp only [std, hpl]; omega
  · have h : (l.length : Int) - a < ks.length := by simpa [std, hpl, hkl] using h
    obtain ⟨rfl, rfl⟩ := hmiss (by
      rw [Bool.eq_false_iff]; intro h2
      have := (hiff.1 h2).1
      omega)
    exact ⟨[some 0], .val (.slice none 0 0), _, rfl, rfl, Nat.le_refl _, rfl, by simp [AllEq], .inl rfl⟩
  · have h : ¬ (l.length : Int) - a < ks.length := by simpa [std, hpl, hkl] using h
    refine loop_rule (cs := cs0) (ord := fun _ => .nil) tyOk (by kernel_rfl) (by kernel_rfl) (by kernel_rfl) (X := Int) (fun i => ⟨[(0, .box 0 0), (1, .slc 1 (intsA ks)), (21, .slc 1 (intsA ks)), (22, .val (.int .i64 m)), (23, .val (.int .i64 i))], [.box [.slc 3 (tpartsA l), .val (.int .i64 a)]]⟩) (fun i => 0 ≤ i ∧ i ≤ m ∧ ∀ j : Nat, (j : Int) < i → (l[a.toNat + j]?.getD tpart0).kind = ks[j]?.getD 0) (fun i => (m - i).toNat) 0 ?_ ?_ ?_
    · exact ⟨by omega, by omega, fun j hj => by omega⟩
    · refine ⟨[some 0], _, rfl, ?_⟩
      simp [AllEq, lk, std, hkl, em]
    · have hmn : a + m ≤ n := by omega
      clear h
      rintro i ⟨hi0, him, hi⟩
      rcases Int.lt_or_eq_of_le him with hlt | heq
      · have hat := ints_at (l := ks) hi0 (by omega)
        have hap := tparts_at (l := l) (i := a + i) (by omega) (by omega)
        have hai : (a + i).toNat = a.toNat + i.toNat := by omega
        rw [hai] at hap
        have hi' : ∀ j : Nat, j < i.toNat → (l[a.toNat + j]?.getD tpart0).kind = ks[j]?.getD 0 := fun j hj => hi j (by omega)
        clear hi
        clear en em
        generalize hp : std = p
        generalize hps : tpartsA l = ps
        generalize hkv : intsA ks = kv
        generalize hT : aexec p tys (cs0) _ _ _ _ = T
        cbv at hT
        subst hT
        simp only [Tree.ok, RoundOk, Bool.false_eq_true, Bool.true_eq_false, false_implies, true_implies, and_true, true_and]
        subst hp hps hkv
        have en := hn.eq
        have em := hm.eq
        have hib : a + i < (l.length : Int) := by omega
        repeat' first
          | (with_reducible refine And.intro (fun hx => absurd hx (by (first | (simp [std, allP, AV.cells, intOf, booOf, lstOf, hat, hap, hai, TPart.av, hpl, hkl, hlt, hi0, hib]; done) | (simp [std, allP, AV.cells, intOf, booOf, lstOf, hat, hap, hai, TPart.av, hpl, hkl, hlt, hi0, hib]; omega) | (refine (inR64 _).2 ?_; (try simp [std, AV.cells, intOf, booOf, lstOf, hat, hap, hai, TPart.av, hpl, hkl, hlt, hi0, hib]); omega) | (refine (inR32 _).2 ?_; (try simp [std, AV.cells, intOf, booOf, lstOf, hat, hap, hai, TPart.av, hpl, hkl, hlt, hi0, hib]); omega) | omega))) (fun _ => ?_))
          | (with_reducible refine And.intro (fun _ => ?_) (fun hx => absurd hx (by (first | (simp [std, allP, AV.cells, intOf, booOf, lstOf, hat, hap, hai, TPart.av, hpl, hkl, hlt, hi0, hib]; done) | (simp [std, allP, AV.cells, intOf, booOf, lstOf, hat, hap, hai, TPart.av, hpl, hkl, hlt, hi0, hib]; omega) | (refine (inR64 _).2 ?_; (try simp [std, AV.cells, intOf, booOf, lstOf, hat, hap, hai, TPart.av, hpl, hkl, hlt, hi0, hib]); omega) | (refine (inR32 _).2 ?_; (try simp [std, AV.cells, intOf, booOf, lstOf, hat, hap, hai, TPart.av, hpl, hkl, hlt, hi0, hib]); omega) | omega))))
          | (with_reducible refine And.intro (by (first | (simp [std, allP, AV.cells, intOf, booOf, lstOf, hat, hap, hai, TPart.av, hpl, hkl, hlt, hi0, hib]; done) | (simp [std, allP, AV.cells, intOf, booOf, lstOf, hat, hap, hai, TPart.av, hpl, hkl, hlt, hi0, hib]; omega) | (refine (inR64 _).2 ?_; (try simp [std, AV.cells, intOf, booOf, lstOf, hat, hap, hai, TPart.av, hpl, hkl, hlt, hi0, hib]); omega) | (refine (inR32 _).2 ?_; (try simp [std, AV.cells, intOf, booOf, lstOf, hat, hap, hai, TPart.av, hpl, hkl, hlt, hi0, hib]); omega) | omega)) ?_)
          | (with_reducible refine And.intro ?_ ?_)
          | (with_reducible intro hb)
        · have hne : ¬ (l[a.toNat + i.toNat]?.getD tpart0).kind = ks[i.toNat]?.getD 0 := by
            simpa [std, hat, hap, hai, TPart.av, AV.cells, intOf] using hb
          obtain ⟨rfl, rfl⟩ := hmiss (by
            rw [Bool.eq_false_iff]; intro h2
            exact hne ((hiff.1 h2).2 i.toNat (by omega)))
          generalize hp : std = p
          generalize hps : tpartsA l = ps
          generalize hkv : intsA ks = kv
          generalize hT : endK p tys _ _ _ _ = T
          cbv at hT
          subst hT
          simp only [Tree.ok, RoundOk, Bool.false_eq_true, Bool.true_eq_false, false_implies, true_implies, and_true, true_and]
          subst hp hps hkv
          exact ⟨[some 0], .val (.slice none 0 0), _, rfl, rfl, Nat.le_refl _, rfl, by simp [AllEq], .inl rfl⟩
        · have he : (l[a.toNat + i.toNat]?.getD tpart0).kind = ks[i.toNat]?.getD 0 := by
            simpa [std, hat, hap, hai, TPart.av, AV.cells, intOf] using hb
          refine ⟨i + 1, ⟨by omega, by omega, fun j hj => ?_⟩, by omega, [some 0], _, rfl, by simp [AllEq, lk, std]⟩
          have hj : (j : Int) < i + 1 := hj
          by_cases hji : j < i.toNat
          · exact hi' j hji
          · obtain rfl : j = i.toNat := by omega
            exact he
      · obtain ⟨rfl, rfl⟩ := hhit (hiff.2 ⟨by omega, fun j hj => hi j (by omega)⟩)
        have hcut : std.cut (tpartsA l) a (a + m) = tpartsA ((l.drop a.toNat).take ks.length) := by
          show ((tpartsA l).drop a.toNat).take (a + m - a).toNat = _
          rw [show (a + m - a).toNat = ks.length by omega, tpartsA, tpartsA, List.map_take, List.map_drop]
        have hml : std.len (intsA ks) = m := by simp only [std, hkl, em]
        have hka : a + (ks.length : Int) = a + m := by omega
        rw [hka, ← hcut]
        clear en em hi
        generalize hp : std = p
        generalize hps : tpartsA l = ps
        generalize hkv : intsA ks = kv
        generalize hT : aexec p tys (cs0) _ _ _ _ = T
        cbv at hT
        subst hT
        simp only [Tree.ok, RoundOk, Bool.false_eq_true, Bool.true_eq_false, false_implies, true_implies, and_true, true_and]
        subst hp hps hkv
        repeat' first
          | (with_reducible refine And.intro (fun hx => absurd hx (by (first | (simp [std, allP, AV.cells, intOf, booOf, lstOf, heq]; done) | (simp [std, allP, AV.cells, intOf, booOf, lstOf, heq]; omega) | (refine (inR64 _).2 ?_; (try simp [std, AV.cells, intOf, booOf, lstOf, heq]); omega) | (refine (inR32 _).2 ?_; (try simp [std, AV.cells, intOf, booOf, lstOf, heq]); omega) | omega))) (fun _ => ?_))
          | (with_reducible refine And.intro (fun _ => ?_) (fun hx => absurd hx (by (first | (simp [std, allP, AV.cells, intOf, booOf, lstOf, heq]; done) | (simp [std, allP, AV.cells, intOf, booOf, lstOf, heq]; omega) | (refine (inR64 _).2 ?_; (try simp [std, AV.cells, intOf, booOf, lstOf, heq]); omega) | (refine (inR32 _).2 ?_; (try simp [std, AV.cells, intOf, booOf, lstOf, heq]); omega) | omega))))
          | (with_reducible refine And.intro (by (first | (simp [std, allP, AV.cells, intOf, booOf, lstOf, heq]; done) | (simp [std, allP, AV.cells, intOf, booOf, lstOf, heq]; omega) | (refine (inR64 _).2 ?_; (try simp [std, AV.cells, intOf, booOf, lstOf, heq]); omega) | (refine (inR32 _).2 ?_; (try simp [std, AV.cells, intOf, booOf, lstOf, heq]); omega) | omega)) ?_)
          | (with_reducible refine And.intro ?_ ?_)
          | (with_reducible intro hb)
        rw [if_pos trivial]
        generalize hp : std = p
        generalize hps : tpartsA l = ps
        generalize hkv : intsA ks = kv
        generalize hT : aexec p tys cs0 _ _ _ _ = T
        cbv at hT
        subst hT
        simp only [Tree.ok, RoundOk, Bool.false_eq_true, Bool.true_eq_false, false_implies, true_implies, and_true, true_and]
        subst hp hps hkv
        have en := hn.eq
        have em := hm.eq
        repeat' first
          | (with_reducible refine And.intro (fun hx => absurd hx (by (first | (simp [std, allP, AV.cells, intOf, booOf, lstOf, hml, hpl, hkl, ← em]; done) | (simp [std, allP, AV.cells, intOf, booOf, lstOf, hml, hpl, hkl, ← em]; omega) | (refine (inR64 _).2 ?_; (try simp [std, AV.cells, intOf, booOf, lstOf, hml, hpl, hkl, ← em]); omega) | (refine (inR32 _).2 ?_; (try simp [std, AV.cells, intOf, booOf, lstOf, hml, hpl, hkl, ← em]); omega) | omega))) (fun _ => ?_))
          | (with_reducible refine And.intro (fun _ => ?_) (fun hx => absurd hx (by (first | (simp [std, allP, AV.cells, intOf, booOf, lstOf, hml, hpl, hkl, ← em]; done) | (simp [std, allP, AV.cells, intOf, booOf, lstOf, hml, hpl, hkl, ← em]; omega) | (refine (inR64 _).2 ?_; (try simp [std, AV.cells, intOf, booOf, lstOf, hml, hpl, hkl, ← em]); omega) | (refine (inR32 _).2 ?_; (try simp [std, AV.cells, intOf, booOf, lstOf, hml, hpl, hkl, ← em]); omega) | omega))))
          | (with_reducible refine And.intro (by (first | (simp [std, allP, AV.cells, intOf, booOf, lstOf, hml, hpl, hkl, ← em]; done) | (simp [std, allP, AV.cells, intOf, booOf, lstOf, hml, hpl, hkl, ← em]; omega) | (refine (inR64 _).2 ?_; (try simp [std, AV.cells, intOf, booOf, lstOf, hml, hpl, hkl, ← em]); omega) | (refine (inR32 _).2 ?_; (try simp [std, AV.cells, intOf, booOf, lstOf, hml, hpl, hkl, ← em]); omega) | omega)) ?_)
          | (with_reducible refine And.intro ?_ ?_)
          | (with_reducible intro hb)
        have hadd : std.add a (std.len (intsA ks)) = a + m := by rw [hml]; rfl
        refine ⟨[some 0], .slc 3 (std.cut (tpartsA l) a (a + m)), _, rfl, rfl, Nat.le_refl _, rfl, ⟨?_, rfl, ?_, trivial⟩, .inl rfl⟩
        · show AV.slc 3 (std.cut (tpartsA l) a (std.add a (std.len (intsA ks)))) = _
          rw [hadd]
        · show AV.val (.int .i64 (std.add a (std.len (intsA ks)))) = _
          rw [hadd]
end Go.Proofs.Ytblafdmmebiagaa
namespace Go.Proofs.Ytblafdmmebiagaa
open Go.RowKit Go.Lib
def invO (ob ob2 ob2' obr : List Ob) (ρ ρ' : List (Option Nat)) : Bool := (List.range ob.length).all fun i => match invR ρ i with
  | some j => ρ'[i]? == some (some j) && (match ob[i]?, ob2[j]?, ob2'[j]?, obr[i]? with
    | some (.row _ _ _ e0 _), some (.row _ _ _ e2 _), some (.row _ _ _ e2' _), some (.row _ _ _ er _) => decide (e0 < er) || (e0 == er && e2 == e2')
    | _, _, _, _ => true)
  | none => false
section
variable {w w' : World} {g g' : Gh} {ob ob2 ob2' obr : List Ob} {ρ ρ' : List (Option Nat)}
theorem step_tell (hF : Fits ob ob2 ρ) (ho : onceR ρ = true) (hF' : Fits ob2' obr ρ') (ho' : onceR ρ' = true) (hi : invO ob ob2 ob2' obr ρ ρ' = true) (hn : ob.length ≤ obr.length) (h0 : Step w (g.ren ρ) ob2 w' g' ob2') : Step w g ob w' (g'.ren ρ') obr := by
  have head : ∀ i, i < ob.length → ∃ j, ρ[j]? = some (some i) ∧ ρ'[i]? = some (some j) ∧ ∀ e0 e2 e2' er et sz fz xs et2 sz2 fz2 xs2 et3 sz3 fz3 xs3 et4 sz4 fz4 xs4,
      ob[i]? = some (.row et sz fz e0 xs) → ob2[j]? = some (.row et2 sz2 fz2 e2 xs2) → ob2'[j]? = some (.row et3 sz3 fz3 e2' xs3) → obr[i]? = some (.row et4 sz4 fz4 er xs4) → e0 < er ∨ (e0 = er ∧ e2 = e2') := fun i hi' => by
    have := List.all_eq_true.1 hi i (List.mem_range.2 hi')
    split at this
    · rename_i j hj
      simp only [Bool.and_eq_true, beq_iff_eq] at this
      refine ⟨j, invR_get hj, this.1, ?_⟩
      intro e0 e2 e2' er et sz fz xs et2 sz2 fz2 xs2 et3 sz3 fz3 xs3 et4 sz4 fz4 xs4 h1 h2 h3 h4
      have h5 := this.2
      simp only [h1, h2, h3, h4, Bool.or_eq_true, Bool.and_eq_true, beq_iff_eq, decide_eq_true_eq] at h5
      exact h5
    · cases this
  refine ⟨h0.os, h0.tape, h0.output, h0.size, fun b hb hG => h0.keep b hb (by simp [Gh.ren, hG]), fun b id hG => ?_, fun b o hA => ?_, ⟨h0.ext.A, fun id hid => ?_, fun id hb => ?_, fun id hb => ?_, fun id et sz fz e xs hr => ?_, fun b id hG hs => ?_⟩, hn⟩
  · obtain ⟨i, _, h3⟩ := ren_Gof hG
    rcases h0.own b i h3 with ⟨id', h4⟩ | h4
    · obtain ⟨i', _, h5⟩ := ren_Gof h4
      exact .inl ⟨i', h5⟩
    · exact .inr h4
  · rcases h0.imm b o hA with h1 | ⟨id, h1⟩ | h1
    · exact .inl h1
    · obtain ⟨i', _, h5⟩ := ren_Gof h1
      exact .inr (.inl ⟨i', h5⟩)
    · exact .inr (.inr h1)
  · obtain ⟨j, h1, h2, _⟩ := head id hid
    have hj : j < ob2.length := hF.1 ▸ lt_of_some h1
    rw [ren_loc h2, h0.ext.loc j hj, ren_loc h1]
  · obtain ⟨j, h1, h2, _⟩ := head id (isBox_lt hb)
    exact hF'.isB h2 (h0.ext.isb j (hF.isB h1 hb))
  · obtain ⟨j, h1, h2, _⟩ := head id (isIt_lt hb)
    exact hF'.isI h2 (h0.ext.isi j (hF.isI h1 hb))
  · obtain ⟨j, h1, h2, h3⟩ := head id (lt_of_some hr)
    obtain ⟨fz2, e2, h4, _⟩ := hF.row h1 hr
    obtain ⟨fz3, e3, xs3, h5, h6, h7⟩ := h0.ext.row j et sz fz2 e2 xs h4
    obtain ⟨fz4, e4, h8, _⟩ := hF'.row h2 h5
    refine ⟨fz4, e4, xs3, h8, by rcases h3 _ _ _ _ _ _ _ _ _ _ _ _ _ _ _ _ _ _ _ _ hr h4 h5 h8 with h | h <;> omega, fun he => ?_⟩
    have hee : e3 = e2 := by
      rcases h3 _ _ _ _ _ _ _ _ _ _ _ _ _ _ _ _ _ _ _ _ hr h4 h5 h8 with h | h
      · omega
      · exact h.2.symm
    obtain ⟨h9, h10⟩ := h7 hee
    refine ⟨h9, fun b hb => ?_⟩
    obtain ⟨h11, h12⟩ := h10 b (ren_G ho h1 hb)
    exact ⟨ren_G ho' h2 h11, h12⟩
  · obtain ⟨et, sz, fz, fz', e, xs, xs', h4, h5⟩ := hs
    obtain ⟨j, h1, h2, h3⟩ := head id (lt_of_some h4)
    obtain ⟨fz2, e2, h6, _⟩ := hF.row h1 h4
    obtain ⟨fz3, e3, xs3, h7, h8, h9⟩ := h0.ext.row j et sz fz2 e2 xs h6
    obtain ⟨fz4, e4, h10, _⟩ := hF'.row h2 h7
    rw [h10] at h5
    obtain ⟨rfl, rfl, rfl⟩ : fz4 = fz' ∧ e4 = e ∧ xs3 = xs' := by simpa using h5
    have hee : e2 = e3 := by
      rcases h3 _ _ _ _ _ _ _ _ _ _ _ _ _ _ _ _ _ _ _ _ h4 h6 h7 h10 with h | h
      · omega
      · exact h.2
    subst hee
    have hG2 := ren_G (g := g) ho h1 hG
    obtain ⟨h11, h12⟩ := h0.ext.sub b j hG2 ⟨_, _, _, _, _, _, _, h6, h7⟩
    have hG3 := ((h9 rfl).2 b hG2).1
    have e1 := ren_sub (g := g) ho h1 hG
    have e2 := ren_sub (g := g') ho' h2 hG3
    exact ⟨e2.trans (h11.trans e1), fun hb => h12 (by rw [e1]; exact hb)⟩
theorem BCall.tell {P : Program} {f : Nat} {args args2 : List AV} {res2 res' res : AV} {l l' : Eqs} (h : BCall P f args2 ob2 res2 ob2') (ρ ρ' : List (Option Nat)) (h1 : onceR ρ = true) (h1' : onceR ρ' = true) (hi : invO ob ob2 ob2' obr ρ ρ' = true) (hn : ob.length ≤ obr.length)
    (ha : both (renTs ob ob2 ρ args args2) (renOs ob ob2 ρ ρ ob2) = some l) (hl : AllEq l) (hr : both (renR ob2' obr ρ' res2 res') (renOs ob2' obr ρ' ρ' obr) = some l') (hl' : AllEq l') (h6 : leA res' res) : BCall P f args ob res obr := by
  refine ⟨h.1, fun w g vs M hL => ?_⟩
  obtain ⟨⟨l1, e1, a1⟩, l2, e2, a2⟩ := both_some ha hl
  obtain ⟨⟨l3, e3, a3⟩, l4, e4, a4⟩ := both_some hr hl'
  have hF : Fits ob ob2 ρ := renOs_get _ _ _ e2 a2
  have hF' : Fits ob2' obr ρ' := renOs_get _ _ _ e4 a4
  obtain ⟨k1, k2⟩ := renTs_rel hF h1 _ _ _ _ e1 a1 hL.1 hL.2
  refine (h.2 w (g.ren ρ) vs (M.ren hF h1) ⟨k1, k2⟩).mono fun e w' ⟨v, g', k1, k2, k3, k4⟩ => ?_
  exact ⟨v, g'.ren ρ', k1, k2.ren hF' h1', leA_rel (renR_rel hF' h1' k3 e3 a3) h6, step_tell hF h1 hF' h1' hi hn k4⟩
end
section
variable {P : Program} {ty : Tys} {w0 : World} {g0 : Gh} {o0 : List Ob} {N : Nat}
theorem loop_ruleX (hT : TyOk P ty) (hm : P.follows .mixedOrders = true) {ord : Nat → OT} {c : Code} (hd : dstOk N c = true) (ho : ordOk .any ty ord c = true)
    {X : Type} (cs : X → Nat → List AV → List Ob → Option (AV × List Ob)) (S : X → St) (J : X → Prop) (μ : X → Nat) {Q : Ex → St → Prop} {s : St} (x0 : X) (h0 : J x0) (hS : Seen o0 s (S x0))
    (round : ∀ x, J x → (aexec std ty (cs x) ord c (fun e s => .leaf e s) (S x)).ok P w0 g0 o0 N (RoundOk o0 S J μ x Q)) : WP P w0 g0 o0 N (.loop c) Q s := by
  intro a w hs
  obtain ⟨ρ, l, hl, hE⟩ := hS
  let I : Act → World → Prop := fun a w => ∃ x, J x ∧ Sim w0 g0 o0 N (S x) a w
  let pm : Act → World → Nat → Prop := fun a w n => ∃ x, J x ∧ Sim w0 g0 o0 N (S x) a w ∧ μ x = n
  let m : Act → World → Nat := fun a w => open Classical in if h : ∃ n, pm a w n then Classical.choose (least _ h) else 0
  have hmin : ∀ a w, I a w → pm a w (m a w) ∧ ∀ k, pm a w k → m a w ≤ k := fun a w hI => by
    have h : ∃ n, pm a w n := by
      obtain ⟨x, h1, h2⟩ := hI
      exact ⟨μ x, x, h1, h2, rfl⟩
    have e : m a w = Classical.choose (least _ h) := dif_pos h
    rw [e]
    exact Classical.choose_spec (least _ h)
  refine wp_loop I m ⟨x0, h0, seen_sim ρ hl hE hs⟩ fun a w hI => ?_
  obtain ⟨⟨x, hJ, hx, hμ⟩, hle⟩ := hmin a w hI
  refine aexec_sound (Q := RoundOk o0 S J μ x Q) hT hm c _ _ (S x) a w hd ho (fun c a d v w h => ?_) (fun e s a' w' hs' hq => ?_) hx (round x hJ)
  · obtain ⟨e', s', h1, h2, h3⟩ := h
    cases e' <;> cases h1
  · cases e with
    | normal =>
      obtain ⟨x', h1, h2, ρ', l', h3, h4⟩ := hq
      have hs2 := seen_sim ρ' h3 h4 hs'
      have hI' : I a' w' := ⟨x', h1, hs2⟩
      refine ⟨hI', Nat.lt_of_le_of_lt ((hmin a' w' hI').2 _ ⟨x', h1, hs2, rfl⟩) ?_⟩
      rw [← hμ]; exact h2
    | exit i => exact ⟨.exit i, s, rfl, hs', hq⟩
    | ret => exact ⟨.ret, s, rfl, hs', hq⟩
end
end Go.Proofs.Ytblafdmmebiagaa
namespace Go.Proofs.Ytblafdmmebiagaa
open Go.RowKit Go.Lib
theorem at_map {α : Type} (f : α → AV) {l : List α} {i : Int} (h0 : 0 ≤ i) (h1 : i < l.length) (d : α) : std.at_ (l.map f) i = f (l[i.toNat]?.getD d) := by
  show (l.map f).getD i.toNat .dead = _
  rw [List.getD_eq_getElem?_getD]; exact getA f h0 h1 d
theorem int_cell {l : List Int} {i : Int} (h0 : 0 ≤ i) (h1 : i < l.length) : std.nth (std.cel (std.at_ (intsA l) i)) 0 = .val (.int .i64 (l[i.toNat]?.getD 0)) := by rw [intsA, at_map intA h0 h1 0]; rfl
theorem has_int {x : AV} {n : Int} {k : IntKind} (h : x = .val (.int k n)) : std.hasI k x := by subst h; rfl
theorem int_of {x : AV} {n : Int} {k : IntKind} (h : x = .val (.int k n)) : std.int x = n := by subst h; rfl
end Go.Proofs.Ytblafdmmebiagaa
namespace Go.Proofs.Ytblafdmmebiagaa
open Go.RowKit Go.Lib
def planL (g : Nat → Option (List Srt)) (ty : Tys) : Nat → List Field → Option (List Srt)
  | _, [] => some []
  | off, f :: r => if f.name ≠ "_" ∧ f.offset = off ∧ (tyLook f.type ty).ok = true then
      (match g f.type, planL g ty (off + (tyLook f.type ty).size) r with
      | some s, some q => if s.length = (tyLook f.type ty).size then some (s ++ q) else none
      | _, _ => none) else none
def eqPlan (P : Program) (ty : Tys) : Nat → Nat → Option (List Srt)
  | 0, _ => none
  | d + 1, t => match P.underlying t with
    | some (.struct fs) => if P.stoodInHeld t = false then planL (eqPlan P ty d) ty 0 fs.toList else none
    | some .bool => some [.boo]
    | some .string => some [.str]
    | some (.int k) => some [.int k]
    | _ => none
section
variable {P : Program} {ty : Tys}
def mkV (ty : Tys) (t : Nat) (xs : List Value) : Value := if (tyLook t ty).agg = true then .agg xs.toArray else xs.headD undef
def allV (xs ys : List Value) : Bool := (xs.zip ys).all fun q => eqV q.1 q.2
theorem allV_app {a b c d : List Value} (h : a.length = c.length) : allV (a ++ b) (c ++ d) = (allV a c && allV b d) := by
  unfold allV
  rw [List.zip_append h, List.all_append]
theorem srt_len {xs : List Value} {sh : List Srt} (h : xs.map srtV = sh.map some) : xs.length = sh.length := by
  have := congrArg List.length h
  simpa using this
theorem srt_one {xs : List Value} {s : Srt} (h : xs.map srtV = [s].map some) : ∃ x, xs = [x] ∧ srtV x = some s := by
  cases xs with
  | nil => cases h
  | cons x t =>
    obtain ⟨h1, h2⟩ := List.cons.inj h
    obtain rfl : t = [] := by simpa using h2
    exact ⟨x, rfl, h1⟩
theorem agg_of (hT : TyOk P ty) {t : Nat} (hk : (tyLook t ty).ok = true) {d : TypeDesc} (h : P.underlying t = some d) : (tyLook t ty).agg = (shapeOf d).1 := by
  obtain ⟨d', h1, h2⟩ := (ty_ok hT hk).u
  rw [h] at h1
  cases h1
  rw [h2]
theorem part_ok (hT : TyOk P ty) {t : Nat} (hk : (tyLook t ty).ok = true) (xs : List Value) (off : Nat) (hl : off + (tyLook t ty).size ≤ xs.length) (W : World) :
    (part t xs.toArray off).run P W = .ok (mkV ty t ((xs.drop off).take (tyLook t ty).size)) W := by
  have ti := ty_ok hT hk
  unfold part mkV
  rw [Sem.run_bind, ti.isAgg W]
  simp only [Result.andThen_ok]
  by_cases hg : (tyLook t ty).agg = true
  · rw [if_pos hg, if_pos hg, Sem.run_bind, ti.size W]
    simp only [Result.andThen_ok, Sem.run_pure]
    congr 2
    apply Array.toList_inj.1
    simp [List.take_drop]
  · rw [if_neg hg, if_neg hg]
    have h1 := ti.one (by simpa using hg)
    rw [h1]
    have h2 : off < xs.length := by omega
    have : xs.toArray[off]? = some xs[off] := by simp [h2]
    rw [this, List.drop_eq_getElem_cons h2]
    rfl
theorem planL_ok (hT : TyOk P ty) {g : Nat → Option (List Srt)} {n : Nat}
    (ih : ∀ t sh, g t = some sh → (tyLook t ty).ok = true → ∀ (xs ys : List Value) (W : World), xs.map srtV = sh.map some → ys.map srtV = sh.map some → (Op.equalIn n t (mkV ty t xs) (mkV ty t ys)).run P W = .ok (allV xs ys) W) :
    ∀ (fs : List Field) (off : Nat) (sh : List Srt), planL g ty off fs = some sh → ∀ (xs ys : List Value) (W : World), off ≤ xs.length → off ≤ ys.length → (xs.drop off).map srtV = sh.map some → (ys.drop off).map srtV = sh.map some →
      (Op.eqFields n xs.toArray ys.toArray fs).run P W = .ok (allV (xs.drop off) (ys.drop off)) W
  | [], off, sh, h, xs, ys, W, _, _, hx, hy => by
    obtain rfl : [] = sh := by simpa [planL] using h
    have hx : xs.drop off = [] := by simpa using hx
    have hy : ys.drop off = [] := by simpa using hy
    rw [hx, hy]; rfl
  | f :: r, off, sh, h, xs, ys, W, hox, hoy, hx, hy => by
    simp only [planL] at h
    split at h
    · rename_i hf
      obtain ⟨hn, ho, hk⟩ := hf
      split at h
      · rename_i s q hs hq
        split at h
        · rename_i hl
          obtain rfl : s ++ q = sh := by simpa using h
          have lx := srt_len hx
          have ly := srt_len hy
          rw [List.length_drop, List.length_append] at lx ly
          have ex : xs.drop off = (xs.drop off).take s.length ++ xs.drop (off + s.length) := by rw [← List.drop_drop, List.take_append_drop]
          have ey : ys.drop off = (ys.drop off).take s.length ++ ys.drop (off + s.length) := by rw [← List.drop_drop, List.take_append_drop]
          have lxt : ((xs.drop off).take s.length).length = s.length := by rw [List.length_take, List.length_drop]; omega
          have lyt : ((ys.drop off).take s.length).length = s.length := by rw [List.length_take, List.length_drop]; omega
          rw [ex, List.map_append, List.map_append] at hx
          rw [ey, List.map_append, List.map_append] at hy
          obtain ⟨hx1, hx2⟩ := List.append_inj hx (by simp only [List.length_map]; exact lxt)
          obtain ⟨hy1, hy2⟩ := List.append_inj hy (by simp only [List.length_map]; exact lyt)
          have rc := planL_ok hT ih r (off + (tyLook f.type ty).size) q hq xs ys
          rw [← hl] at rc
          have one := ih f.type s hs hk _ _ W hx1 hy1
          rw [ex, ey, allV_app (by rw [lxt, lyt])]
          simp only [Op.eqFields]
          rw [if_pos hn, Sem.run_bind, ho, part_ok hT hk xs off (by omega) W]
          simp only [Result.andThen_ok]
          rw [Sem.run_bind, part_ok hT hk ys off (by omega) W]
          simp only [Result.andThen_ok]
          rw [Sem.run_bind, ← hl, one]
          simp only [Result.andThen_ok]
          cases hb : allV ((xs.drop off).take s.length) ((ys.drop off).take s.length) with
          | false => simp
          | true => simpa using rc W (by omega) (by omega) hx2 hy2
        · cases h
      · cases h
    · cases h
theorem eqPlan_ok (hT : TyOk P ty) : ∀ (d e t : Nat) (sh : List Srt), eqPlan P ty d t = some sh → (tyLook t ty).ok = true → ∀ (xs ys : List Value) (W : World), xs.map srtV = sh.map some → ys.map srtV = sh.map some →
    (Op.equalIn (e + d) t (mkV ty t xs) (mkV ty t ys)).run P W = .ok (allV xs ys) W
  | 0, _, _, _, h, _, _, _, _, _, _ => by cases h
  | d + 1, e, t, sh, h, hk, xs, ys, W, hx, hy => by
    simp only [eqPlan] at h
    split at h
    · rename_i fs hu
      split at h
      · rename_i hp
        have hg : (tyLook t ty).agg = true := agg_of hT hk hu
        have hS : P.underlying t = some (.struct (P.fieldsOf t)) := by
          rw [hu]; simp [Program.fieldsOf, hu]
        have hF : P.fieldsOf t = fs := by simp [Program.fieldsOf, hu]
        unfold mkV
        rw [if_pos hg, if_pos hg, ← Nat.add_assoc, run_equalIn_agg W _ _ _ _ hS hp, hF]
        exact planL_ok hT (fun t sh h hk xs ys W hx hy => eqPlan_ok hT d e t sh h hk xs ys W hx hy) fs.toList 0 sh h xs ys W (Nat.zero_le _) (Nat.zero_le _) hx hy
      · cases h
    · rename_i hu
      have hg : (tyLook t ty).agg = false := agg_of hT hk hu
      obtain rfl : [Srt.boo] = sh := by simpa using h
      obtain ⟨x, rfl, hx1⟩ := srt_one hx
      obtain ⟨y, rfl, hy1⟩ := srt_one hy
      cases x <;> simp only [srtV, Option.some.injEq, reduceCtorEq] at hx1
      cases y <;> simp only [srtV, Option.some.injEq, reduceCtorEq] at hy1
      unfold mkV
      rw [if_neg (by rw [hg]; decide), if_neg (by rw [hg]; decide)]
      rw [← Nat.add_assoc]
      refine (run_equalIn_bool' W _ _ _ _ hu).trans ?_
      simp [allV, eqV]
    · rename_i hu
      have hg : (tyLook t ty).agg = false := agg_of hT hk hu
      obtain rfl : [Srt.str] = sh := by simpa using h
      obtain ⟨x, rfl, hx1⟩ := srt_one hx
      obtain ⟨y, rfl, hy1⟩ := srt_one hy
      cases x <;> simp only [srtV, Option.some.injEq, reduceCtorEq] at hx1
      cases y <;> simp only [srtV, Option.some.injEq, reduceCtorEq] at hy1
      unfold mkV
      rw [if_neg (by rw [hg]; decide), if_neg (by rw [hg]; decide)]
      rw [← Nat.add_assoc]
      refine (run_equalIn_string W _ _ _ _ hu).trans ?_
      simp [allV, eqV]
    · rename_i k hu
      have hg : (tyLook t ty).agg = false := agg_of hT hk hu
      obtain rfl : [Srt.int k] = sh := by simpa using h
      obtain ⟨x, rfl, hx1⟩ := srt_one hx
      obtain ⟨y, rfl, hy1⟩ := srt_one hy
      cases x <;> simp only [srtV, Option.some.injEq, Srt.int.injEq, reduceCtorEq] at hx1
      cases y <;> simp only [srtV, Option.some.injEq, Srt.int.injEq, reduceCtorEq] at hy1
      subst hx1 hy1
      unfold mkV
      rw [if_neg (by rw [hg]; decide), if_neg (by rw [hg]; decide)]
      rw [← Nat.add_assoc]
      refine (run_equalIn_int W _ _ _ _ _ _ hu).trans ?_
      simp [allV, eqV]
    · cases h
theorem EqOk.plan (hT : TyOk P ty) {T : Nat} {sh : List Srt} (h : eqPlan P ty 8 T = some sh) (hk : (tyLook T ty).ok = true) (ha : (tyLook T ty).agg = true) (hg : P.eqGuardType P.depth T = false) : EqOk P T sh := by
  intro xs ys x y W hx hy
  have key := eqPlan_ok hT 8 9992 T sh h hk xs ys W hx hy
  unfold mkV at key
  rw [if_pos ha, if_pos ha] at key
  refine ⟨run_eqGuard_agg W _ _ _ _ _ _ hg, run_eqGuard_agg W _ _ _ _ _ _ hg, ?_, ?_⟩
  · rw [run_eql_struct]
    rw [show (10000 : Nat) = 9992 + 8 from rfl, key]; rfl
  · rw [run_neq_struct]
    rw [show (10000 : Nat) = 9992 + 8 from rfl, key]; rfl
end
theorem eqDiag : EqOk Try.prog 47 [.int .i64, .int .i64, .int .i64] := EqOk.plan tyOk (by kernel_rfl) (by kernel_rfl) (by kernel_rfl) (by kernel_rfl)
end Go.Proofs.Ytblafdmmebiagaa
namespace Go.Proofs.Ytblafdmmebiagaa
open Go.RowKit Go.Lib
def gl (w : World) : Gh := ⟨fun b _ => b < w.heap.size, fun _ => none, fun _ => 0, fun _ => false⟩
theorem mem_law (w : World) : Mem w (gl w) [] :=
  ⟨(fun id cs h => by simp at h), (fun id cs h => by simp at h), (fun id s p h => by simp at h), (fun b id h => by cases h), (fun b o h => ⟨h, fun id h2 => by cases h2⟩), (fun id et sz fz e xs h => by simp at h), (fun b h => by cases h), (fun b b' id h => by cases h)⟩
theorem BCall.law {P : Program} {f : Nat} {vs : List Value} {args : List AV} {res : Value} (h : BCall P f args [] (.val res) []) (w : World) (hL : ARelL w (gl w) [] vs args) :
    Calls P f vs.toArray w fun e w' => e = .returned res ∧ Below w.heap.size w w' :=
  (h.2 w (gl w) vs (mem_law w) hL).mono fun e w' ⟨v, g', k1, k2, k3, k4⟩ => by
    have hv : v = res := ARel.valEq (g := g') (w := w') (ob := []) k3
    subst hv
    exact ⟨k1, k4.os, k4.tape, k4.output, k4.size, fun b hb => k4.keep b hb rfl⟩
theorem argL_nil {w : World} {g : Gh} {ob : List Ob} : ARelL w g ob [] [] := ⟨rfl, fun j v x h => by simp at h⟩
theorem argL_cons {w : World} {g : Gh} {ob : List Ob} {v : Value} {x : AV} {vs : List Value} {xs : List AV} (h : ARel1 w g ob v x) (hr : ARelL w g ob vs xs) : ARelL w g ob (v :: vs) (x :: xs) := by
  refine ⟨by simp [hr.1], fun j u y hu hy => ?_⟩
  cases j with
  | zero =>
    obtain rfl : v = u := by simpa using hu
    obtain rfl : x = y := by simpa using hy
    exact h
  | succ j => exact hr.2 j u y (by simpa using hu) (by simpa using hy)
theorem okWide_spot {P : Program} {W : World} {r : Reach} {base : Nat} {t e : TypeId} {x : Addr} {l c : Nat} (ht : P.underlying t = some (.slice e)) (h : Value.okWide P W r base t (.slice (some x) l c)) : x.spot = none := by
  simp only [Value.okWide, ht, Cell.okWide, Cell.ok] at h
  exact h.2.2.2.1
def IsRowS (k : IntKind) (w : World) (a : Option Addr) (len cap : Nat) (zs : List Int) : Prop :=
  (a = none ∧ len = 0 ∧ cap = 0 ∧ zs = []) ∨
  ∃ x, a = some x ∧ len ≤ cap ∧ cap ≤ maxLen ∧ zs.length = cap ∧ (∀ i, i < zs.length → w.cell? (x.add i) = some (.int k (zs.getD i 0))) ∧ ∀ n ∈ zs, (Lit.int k n).wf = true
theorem arg_ints {k : IntKind} {w : World} {a : Option Addr} {len cap : Nat} {zs : List Int} (h : IsRowS k w a len cap zs) (hs : ∀ x, a = some x → x.spot = none) :
    ARel1 w (gl w) [] (.slice a len cap) (.slc 1 ((zs.take len).map fun n => .val (.int k n))) := by
  have hr := (rd_of_row h).1
  have hl : len = ((zs.take len).map fun n => AV.val (.int k n)).length := by
    rcases h with ⟨_, rfl, _, rfl⟩ | ⟨x, _, h1, _, h2, _⟩
    · rfl
    · simp; omega
  refine rd_slc hr (fun b o hb => hb) hl (fun x hx => by obtain ⟨n, _, rfl⟩ := List.mem_map.1 hx; rfl) (fun x hx => ?_) ?_
  · obtain ⟨b, o, s⟩ := x
    exact ⟨b, o, by rw [show s = none from hs _ hx]⟩
  · have : flatA ((zs.take len).map fun n => AV.val (.int k n)) = ((zs.take len).map (Value.int k)).map .val := by
      generalize zs.take len = l
      induction l with
      | nil => rfl
      | cons n r ih => simp only [List.map_cons, flatA, List.flatMap_cons] at ih ⊢; rw [ih]; rfl
    rw [this]
    refine ⟨by simp, fun j y u hy hu => ?_⟩
    rw [List.getElem?_map, hy] at hu
    obtain rfl : AV.val y = u := by simpa using hu
    obtain ⟨n, _, rfl⟩ := List.mem_map.1 (List.mem_of_getElem? hy)
    exact PRel.val _ rfl
theorem lit_u8 {n : Int} (h : (Lit.int .u8 n).wf = true) : ((UInt8.ofNat n.toNat).toNat : Int) = n := by
  have h : 0 ≤ n ∧ n ≤ 255 := by simpa [Lit.wf, IntKind.min, IntKind.max, IntKind.signed, IntKind.bits] using h
  rw [UInt8.toNat_ofNat']
  omega
theorem arg_bytes {w : World} {a : Option Addr} {len cap : Nat} {zs : List Int} (h : IsRowS .u8 w a len cap zs) (hs : ∀ x, a = some x → x.spot = none) :
    ARel1 w (gl w) [] (.slice a len cap) (.slc 1 (bytesA ((zs.take len).map fun n => UInt8.ofNat n.toNat))) := by
  have h1 := arg_ints h hs
  have h2 := (rd_of_row h).2
  have e : bytesA ((zs.take len).map fun n => UInt8.ofNat n.toNat) = (zs.take len).map fun n => .val (.int .u8 n) := by
    rw [bytesA, List.map_map]
    refine List.map_congr_left fun n hn => ?_
    show AV.val (.int .u8 ((UInt8.ofNat n.toNat).toNat : Int)) = _
    rw [lit_u8 (h2 n hn)]
  rw [e]; exact h1
end Go.Proofs.Ytblafdmmebiagaa
