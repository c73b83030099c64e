/- Lemmas, conditions told -/
import Derived.Test.YtcmjijpofkoogaaGreatG09
import Derived.Test.YtcmjijpofkoogaaGreatG07
import Derived.Laws.Sem
import Derived.Test.YtcmjijpofkoogaaGreatProg
set_option linter.unusedSimpArgs false
set_option linter.unusedVariables false
namespace Go.Proofs.YtcmjijpofkoogaaGreat
open Go.RowKit Go.Lib
def ent : Nat → List AV → List (Nat × AV)
  | _, [] => []
  | k, x :: r => (k, x) :: ent (k + 1) r
theorem lk_ent (t : Nat) : ∀ (l : List AV) (k : Nat), lk t (ent k l) = if k ≤ t then l.getD (t - k) .dead else .dead
  | [], k => by simp [ent, lk]
  | x :: r, k => by
    simp only [ent, lk]
    by_cases h : t = k
    · subst h; simp
    · rw [if_neg h, lk_ent t r (k + 1)]
      by_cases h2 : k ≤ t
      · have e : t - k = (t - (k + 1)) + 1 := by omega
        rw [if_pos (by omega), if_pos h2, e, List.getD_cons_succ]
      · rw [if_neg (by omega), if_neg h2]
def resSem (tmps : Array Value) (rv : ResultVar) : Sem Value := match rv with
  | .tmp t => pure (tmps.getD t undef)
  | .cell a t => do loadVar t (← asAddr (tmps.getD a undef))
theorem results_eq (fn : Func) (tmps : Array Value) : results fn tmps = (do let vs ← fn.results.mapM (resSem tmps); pure (if h : vs.size = 1 then vs[0] else .tuple vs)) := by
  unfold results
  congr 1
section
variable {P : Program} {ty : Tys} {Df : List Deferred} {w0 w : World} {g0 g : Gh} {o0 : List Ob} {N : Nat} {s : St} {a : Act}
theorem res_one (hT : TyOk P ty) (M : Mem w g s.ob) (hS : Slots w g s a) {rv : ResultVar} {x : AV} (h : resOf ty s rv = some x) :
    ∃ v, Sem.run P (resSem a.tmps rv) w = .ok v w ∧ ARel w g s.ob v x := by
  cases rv with
  | tmp t =>
    refine ⟨a.tmps.getD t undef, rfl, ?_⟩
    have hr := hS t
    simp only [resOf] at h
    split at h
    · rename_i b hb
      obtain rfl : AV.val (.bool b) = x := by simpa using h
      rw [hb] at hr
      have e : a.tmps.getD t undef = .bool b := hr
      rw [e]
      exact PRel.to (.val _ rfl)
    · cases h
    · obtain rfl : lk t s.tm = x := by simpa using h
      exact hr
  | cell b T =>
    simp only [resOf] at h
    split at h
    · rename_i cs hcs
      by_cases hk : (tyLook T ty).ok = true ∧ (if (tyLook T ty).agg then (tyLook T ty).size else 1) ≤ cs.length
      · rw [if_pos hk] at h
        cases h
        obtain ⟨bl, of, hv, hc⟩ := cellsAt_rel M (hS b) hcs
        obtain ⟨v, h1, h2⟩ := load_cells (g := g) hT hk.1 hc hk.2
        refine ⟨v, ?_, h2⟩
        have h3 := h1 w (LeB.refl w)
        show (asAddr (a.tmps.getD b undef) >>= fun p => loadVar T p).run P w = _
        rw [hv]
        simpa [asAddr] using h3
      · rw [if_neg hk] at h; cases h
    · cases h
theorem res_list (hT : TyOk P ty) (M : Mem w g s.ob) (hS : Slots w g s a) : ∀ (rs : List ResultVar) (xs : List AV), allSome (rs.map (resOf ty s)) = some xs →
    ∃ vs, Sem.run P (rs.mapM (resSem a.tmps)) w = .ok vs w ∧ vs.length = xs.length ∧
      ∀ (j : Nat) v x, vs[j]? = some v → xs[j]? = some x → ARel w g s.ob v x
  | [], xs, h => by
    obtain rfl : [] = xs := by simpa [allSome] using h
    exact ⟨[], rfl, rfl, fun j v x h => by simp at h⟩
  | rv :: rs, xs, h => by
    cases h1 : resOf ty s rv with
    | none => simp [allSome, h1] at h
    | some x =>
      simp only [List.map_cons, h1, allSome, Option.map_eq_some_iff] at h
      obtain ⟨ys, h2, rfl⟩ := h
      obtain ⟨v, hv, hr⟩ := res_one hT M hS h1
      obtain ⟨vs, hvs, hl, hrs⟩ := res_list hT M hS rs ys h2
      refine ⟨v :: vs, ?_, by simp [hl], fun j y u hy hu => ?_⟩
      · simp only [List.mapM_cons, Sem.run_bind, hv, hvs, Result.andThen_ok, Sem.run_pure]
      · cases j with
        | zero =>
          obtain rfl : v = y := by simpa using hy
          obtain rfl : x = u := by simpa using hu
          exact hr
        | succ j => exact hrs j y u (by simpa using hy) (by simpa using hu)
theorem result_sound (hT : TyOk P ty) {keep : Bool} {fn : Func} (hs : Sim Df w0 g0 o0 N s a w) {res : AV} {ob' : List Ob} (h : resultA std ty keep fn.results.toList s = some (res, ob')) :
    ∃ v g', (results fn a.tmps).run P w = .ok v w ∧ Mem w g' ob' ∧ ARel w g' ob' v res ∧ Step w0 g0 o0 w g' ob' := by
  obtain ⟨g, M, hS, h0⟩ := hs.rel
  unfold resultA at h
  cases hx : allSome (fn.results.toList.map (resOf ty s)) with
  | none => rw [hx] at h; cases h
  | some xs =>
    rw [hx] at h
    obtain ⟨vs, hvs, hl, hrs⟩ := res_list hT M hS _ _ hx
    have hrun : (results fn a.tmps).run P w = .ok (if h : vs.toArray.size = 1 then vs.toArray[0] else .tuple vs.toArray) w := by
      rw [results_eq, Array.mapM_eq_mapM_toList, Sem.run_bind]
      have : (List.toArray <$> (fn.results.toList.mapM (resSem a.tmps))).run P w = .ok vs.toArray w := by
        rw [map_eq_pure_bind, Sem.run_bind, hvs]; rfl
      rw [this]; rfl
    have many : xs.length ≠ 1 → (eachM (frz std keep 9) s.ob xs).map (fun (ys, ob) => (AV.tup ys, ob)) = some (res, ob') →
        ∃ v g', (results fn a.tmps).run P w = .ok v w ∧ Mem w g' ob' ∧ ARel w g' ob' v res ∧ Step w0 g0 o0 w g' ob' := fun hne h => by
      simp only [Option.map_eq_some_iff] at h
      obtain ⟨⟨ys, ob1⟩, h1, h2⟩ := h
      cases h2
      have hL : ARelL w g s.ob vs xs := ⟨hl, fun j v x hv hx => (hrs j v x hv hx).to1 (each_live _ _ _ _ h1 _ (List.mem_of_getElem? hx))⟩
      obtain ⟨g', M', E', R', L'⟩ := frzL _ _ g s.ob ys ob1 M hL h1
      refine ⟨_, g', hrun, M', ?_, h0.trans (Step.ghost E' L')⟩
      have : ¬ vs.toArray.size = 1 := by simp; omega
      rw [dif_neg this]
      exact ⟨vs.toArray, rfl, by simpa using R'.1, fun j y u hy hu => R'.2 j y u (by simpa using hy) hu⟩
    cases xs with
    | nil => exact many (by simp) h
    | cons x r =>
      cases r with
      | cons x' r' => exact many (by simp) h
      | nil =>
        obtain ⟨v, rfl⟩ : ∃ v, vs = [v] := List.length_eq_one_iff.1 (by simpa using hl)
        obtain ⟨g', M', E', R', L'⟩ := frzTop M (hrs 0 v x rfl rfl) h
        exact ⟨v, g', hrun, M', R', h0.trans (Step.ghost E' L')⟩
end
def leC (x y : AV) : Prop := x = y ∨ (x = .val (.slice none 0 0) ∧ ∃ sz, y = .slc sz []) ∨ (y = .opt x ∧ isPtr x) ∨ x = .opt y
def leL : List AV → List AV → Prop
  | [], [] => True
  | x :: r, y :: r' => leC x y ∧ leL r r'
  | _, _ => False
def leA1 : AV → AV → Prop
  | .agg xs, .agg ys => leL xs ys
  | .agg _, _ => False
  | .tup _, _ => False
  | _, .agg _ => False
  | _, .tup _ => False
  | x, y => leC x y
def leT : List AV → List AV → Prop
  | [], [] => True
  | x :: r, y :: r' => leA1 x y ∧ leT r r'
  | _, _ => False
def leA (x y : AV) : Prop := match x with
  | .tup xs => (match y with
    | .tup ys => leT xs ys
    | _ => False)
  | x => leA1 x y
section
variable {w : World} {g : Gh} {ob : List Ob}
theorem leC_rel {v : Value} {x y : AV} (h : ARel0 w g ob v x) (hl : leC x y) : ARel0 w g ob v y := by
  rcases hl with rfl | ⟨rfl, sz, rfl⟩ | ⟨rfl, hp⟩ | rfl
  · exact h
  · cases (show v = _ from ARel.valEq (g := g) (w := w) (ob := ob) h)
    exact PRel.nil sz
  · have : PRel w g.A v x := by
      cases x with
      | val _ => exact h
      | ref _ => exact h
      | opt _ => exact h
      | _ => exact (show False from hp).elim
    exact PRel.opt _ _ this hp
  · exact (PRel.ofOpt (show PRel w g.A v (.opt y) from h)).1.to0
theorem leL_rel : ∀ {vs : List Value} {xs ys : List AV}, ARelC w g ob vs xs → leL xs ys → ARelC w g ob vs ys
  | vs, [], [], h, _ => h
  | _, [], _ :: _, _, hl => hl.elim
  | _, _ :: _, [], _, hl => hl.elim
  | [], x :: r, y :: r', h, _ => absurd h.1 (by simp)
  | v :: vs, x :: r, y :: r', h, hl => by
    have h1 := h.2 0 v x rfl rfl
    have h2 : ARelC w g ob vs r' := leL_rel (xs := r) ⟨by simpa using h.1, fun j a b ha hb => h.2 (j + 1) a b (by simpa using ha) (by simpa using hb)⟩ hl.2
    refine ⟨by simp [h2.1], fun j a b ha hb => ?_⟩
    cases j with
    | zero =>
      obtain rfl : v = a := by simpa using ha
      obtain rfl : y = b := by simpa using hb
      exact ⟨leC_rel h1.1 hl.1, h1.2⟩
    | succ j => exact h2.2 j a b (by simpa using ha) (by simpa using hb)
theorem ARel1.to0 {v : Value} {x : AV} (h : ARel1 w g ob v x) (hn : ∀ cs, x ≠ .agg cs) : ARel0 w g ob v x := by cases x <;> first | exact h | exact absurd rfl (hn _)
theorem leA1_rel {v : Value} {x y : AV} (h : ARel1 w g ob v x) (hl : leA1 x y) : ARel1 w g ob v y := by
  cases x with
  | agg xs =>
    cases y with
    | agg ys => obtain ⟨vs, rfl, h⟩ := h; exact ⟨vs, rfl, leL_rel h hl⟩
    | _ => exact (show False from hl).elim
  | tup _ => exact (show False from hl).elim
  | _ => cases y <;> first | exact (show False from hl).elim | exact (leC_rel (h.to0 (fun cs h => by cases h)) hl).to1
theorem leA_rel {v : Value} {x y : AV} (h : ARel w g ob v x) (hl : leA x y) : ARel w g ob v y := by
  cases x with
  | tup xs =>
    cases y with
    | tup ys =>
      obtain ⟨vs, rfl, h1, h2⟩ := h
      have key : ∀ (xs ys : List AV) (vs : List Value), leT xs ys → vs.length = xs.length → (∀ (j : Nat) y u, vs[j]? = some y → xs[j]? = some u → ARel1 w g ob y u) → vs.length = ys.length ∧ ∀ (j : Nat) y u, vs[j]? = some y → ys[j]? = some u → ARel1 w g ob y u := by
        intro xs
        induction xs with
        | nil =>
          intro ys vs hl hn hr
          cases ys with
          | nil => exact ⟨hn, hr⟩
          | cons _ _ => exact (show False from hl).elim
        | cons x r ih =>
          intro ys vs hl hn hr
          cases ys with
          | nil => exact (show False from hl).elim
          | cons y r' =>
            cases vs with
            | nil => simp at hn
            | cons v vs =>
              obtain ⟨h3, h4⟩ := ih r' vs hl.2 (by simpa using hn) (fun j a b ha hb => hr (j + 1) a b (by simpa using ha) (by simpa using hb))
              refine ⟨by simp [h3], fun j a b ha hb => ?_⟩
              cases j with
              | zero =>
                obtain rfl : v = a := by simpa using ha
                obtain rfl : y = b := by simpa using hb
                exact leA1_rel (hr 0 v x rfl rfl) hl.1
              | succ j => exact h4 j a b (by simpa using ha) (by simpa using hb)
      obtain ⟨h3, h4⟩ := key xs ys vs.toList hl (by simpa using h1) (fun j a b ha hb => h2 j a b (by simpa using ha) hb)
      exact ⟨vs, rfl, by simpa using h3, fun j a b ha hb => h4 j a b (by simpa using ha) hb⟩
    | _ => exact (show False from hl).elim
  | _ => exact (leA1_rel (h.to1' (fun xs h => by cases h)) (show leA1 _ y from hl)).to
end
def renTs (ob ob' : List Ob) (ρ : List (Option Nat)) : List AV → List AV → Option Eqs
  | [], [] => some []
  | x :: r, x' :: r' => both (ren1 ob ob' ρ x x') (renTs ob ob' ρ r r')
  | _, _ => none
def renR (ob ob' : List Ob) (ρ : List (Option Nat)) (x x' : AV) : Option Eqs := match x with
  | .tup xs => (match x' with
    | .tup ys => renTs ob ob' ρ xs ys
    | _ => none)
  | x => ren1 ob ob' ρ x x'
section
variable {w w0 : World} {g g0 : Gh} {ob ob' o0 : List Ob} {ρ : List (Option Nat)}
theorem ren1_notup {x x' : AV} {l : Eqs} (he : ren1 ob ob' ρ x x' = some l) : ∀ xs, x' ≠ .tup xs := by
  rintro xs rfl
  cases he
theorem renTs_rel (hF : Fits ob ob' ρ) (ho : onceR ρ = true) : ∀ (xs ys : List AV) (vs : List Value) (l : Eqs), renTs ob ob' ρ xs ys = some l → AllEq l → vs.length = xs.length → (∀ (j : Nat) y u, vs[j]? = some y → xs[j]? = some u → ARel1 w g ob y u) →
    vs.length = ys.length ∧ ∀ (j : Nat) y u, vs[j]? = some y → ys[j]? = some u → ARel1 w (g.ren ρ) ob' y u
  | [], [], vs, _, _, _, hn, _ => ⟨hn, fun j y u _ h => by simp at h⟩
  | [], _ :: _, _, _, h, _, _, _ => by cases h
  | _ :: _, [], _, _, h, _, _, _ => by cases h
  | x :: r, y :: r', vs, l, h, hl, hn, hr => by
    cases vs with
    | nil => simp at hn
    | cons v vs =>
      obtain ⟨⟨l1, h1, hl1⟩, l2, h2, hl2⟩ := both_some h hl
      obtain ⟨h3, h4⟩ := renTs_rel hF ho r r' vs l2 h2 hl2 (by simpa using hn) (fun j a b ha hb => hr (j + 1) a b (by simpa using ha) (by simpa using hb))
      refine ⟨by simp [h3], fun j a b ha hb => ?_⟩
      cases j with
      | zero =>
        obtain rfl : v = a := by simpa using ha
        obtain rfl : y = b := by simpa using hb
        exact (ren1_rel hF ho (hr 0 v x rfl rfl).to h1 hl1).to1' (ren1_notup h1)
      | succ j => exact h4 j a b (by simpa using ha) (by simpa using hb)
theorem renR_rel (hF : Fits ob ob' ρ) (ho : onceR ρ = true) {v : Value} {x x' : AV} {l : Eqs} (h : ARel w g ob v x) (he : renR ob ob' ρ x x' = some l) (hl : AllEq l) : ARel w (g.ren ρ) ob' v x' := by
  cases x with
  | tup xs =>
    cases x' with
    | tup ys =>
      obtain ⟨vs, rfl, h1, h2⟩ := h
      obtain ⟨h3, h4⟩ := renTs_rel hF ho xs ys vs.toList l he hl (by simpa using h1) (fun j a b ha hb => h2 j a b (by simpa using ha) hb)
      exact ⟨vs, rfl, by simpa using h3, fun j a b ha hb => h4 j a b (by simpa using ha) hb⟩
    | _ => cases he
  | _ => exact ren1_rel hF ho h he hl
theorem step_ren (hF : Fits ob ob' ρ) (ho : onceR ρ = true) (hh : headR o0 ob ob' ρ = true) (hn : o0.length ≤ ρ.length) (h0 : Step w0 g0 o0 w g ob) : Step w0 g0 o0 w (g.ren ρ) ob' := by
  have head : ∀ j, j < o0.length → ρ[j]? = some (some j) := fun j hj => by
    have := List.all_eq_true.1 hh j (List.mem_range.2 hj)
    simp only [Bool.and_eq_true, beq_iff_eq] at this
    exact this.1
  refine ⟨h0.os, h0.tape, h0.output, h0.size, h0.keep, fun b id hG => ?_, h0.imm, ⟨h0.ext.A, fun id hid => ?_, fun id hb => ?_, fun id hb => ?_, fun id et sz fz e xs hr => ?_, fun b id hG hs => ?_⟩, ?_⟩
  · obtain ⟨i, _, h3⟩ := ren_Gof hG
    exact h0.own b i h3
  · rw [ren_loc (head id hid)]; exact h0.ext.loc id hid
  · exact hF.isB (head id (isBox_lt hb)) (h0.ext.isb id hb)
  · exact hF.isI (head id (isIt_lt hb)) (h0.ext.isi id hb)
  · have hid := lt_of_some hr
    obtain ⟨fz1, e1, xs1, h3, h4, h5⟩ := h0.ext.row id et sz fz e xs hr
    obtain ⟨fz2, e2, h6, _⟩ := hF.row (head id hid) h3
    have he : e1 = e2 ∨ e < e2 := by
      have := List.all_eq_true.1 hh id (List.mem_range.2 hid)
      simp only [Bool.and_eq_true, hr, h3, h6, beq_iff_eq, Bool.or_eq_true, decide_eq_true_eq] at this
      exact this.2
    rcases he with he | he
    rotate_left
    · exact ⟨fz2, e2, xs1, h6, by omega, fun hee => by omega⟩
    subst he
    exact ⟨fz2, e1, xs1, h6, h4, fun hee => (h5 hee).turn (fun b hb => ⟨hb, rfl⟩) (fun b _ hb => ren_G ho (head id hid) hb) rfl⟩
  · obtain ⟨et, sz, fz, fz', e, xs, xs', h3, h4⟩ := hs
    have hid := lt_of_some h3
    obtain ⟨fz1, e1, xs1, h5, h6, h7⟩ := h0.ext.row id et sz fz e xs h3
    obtain ⟨fz2, e2, h8, _⟩ := hF.row (head id hid) h5
    rw [h8] at h4
    obtain ⟨rfl, rfl, rfl⟩ : fz2 = fz' ∧ e2 = e ∧ xs1 = xs' := by simpa using h4
    have he : e1 = e2 := by
      have := List.all_eq_true.1 hh id (List.mem_range.2 hid)
      simp only [Bool.and_eq_true, h3, h5, h8, beq_iff_eq, Bool.or_eq_true, decide_eq_true_eq] at this
      omega
    subst he
    obtain ⟨h9, h10⟩ := h0.ext.sub b id hG ⟨_, _, _, _, _, _, _, h3, h5⟩
    have h11 := ren_sub (g := g) ho (head id hid) ((h7 rfl).G hG)
    exact ⟨h11.trans h9, h10⟩
  · rw [← hF.1]; exact hn
end
def FinOk (o0 : List Ob) (res : AV) (ob' : List Ob) (_ : Ex) (s : St) : Prop := match s.tm with
  | [(_, r)] => ∃ ρ r' l, onceR ρ = true ∧ headR o0 s.ob ob' ρ = true ∧ o0.length ≤ ρ.length ∧ both (renR s.ob ob' ρ r r') (renOs s.ob ob' ρ ρ ob') = some l ∧ AllEq l ∧ leA r' res
  | _ => False
def purR : AV → Bool
  | .tup xs => xs.all AV.pur
  | x => x.pur
theorem ren0_pure {ob : List Ob} {ρ : List (Option Nat)} {x : AV} (h : x.pur0 = true) : ∃ l, ren0 ob [] ρ x x = some l ∧ AllEq l := by
  cases x with
  | val v => cases v <;> exact ⟨_, rfl, rfl, trivial⟩
  | slc _ _ => exact ⟨_, rfl, rfl, trivial⟩
  | ref _ => exact ⟨_, rfl, rfl, trivial⟩
  | opt _ => exact ⟨_, rfl, rfl, trivial⟩
  | _ => cases h
theorem ren1_pure {ob : List Ob} {ρ : List (Option Nat)} {x : AV} (h : x.pur = true) : ∃ l, ren1 ob [] ρ x x = some l ∧ AllEq l := by
  cases x with
  | agg cs =>
    have key : ∀ cs : List AV, cs.all AV.pur0 = true → ∃ l, renL ob [] ρ cs cs = some l ∧ AllEq l := by
      intro cs
      induction cs with
      | nil => intro _; exact ⟨[], rfl, trivial⟩
      | cons x r ih =>
        intro h
        simp only [List.all_cons, Bool.and_eq_true] at h
        obtain ⟨l1, h1, h2⟩ := ren0_pure (ob := ob) (ρ := ρ) h.1
        obtain ⟨l2, h3, h4⟩ := ih h.2
        exact ⟨l1 ++ l2, by simp only [renL, h1, h3, both], allEq_append.2 ⟨h2, h4⟩⟩
    exact key cs h
  | val v => exact ren0_pure (ob := ob) (ρ := ρ) (x := .val v) h
  | slc a b => exact ren0_pure (ob := ob) (ρ := ρ) (x := .slc a b) h
  | ref a => exact ren0_pure (ob := ob) (ρ := ρ) (x := .ref a) h
  | opt a => exact ren0_pure (ob := ob) (ρ := ρ) (x := .opt a) h
  | _ => cases h
theorem FinOk.pure {res r : AV} {k : Nat} {ob : List Ob} {e : Ex} (hp : purR r = true) (hl : leA r res) : FinOk [] res [] e ⟨[(k, r)], ob⟩ := by
  have hr : ∃ l, renR ob [] [] r r = some l ∧ AllEq l := by
    cases r with
    | tup xs =>
      have key : ∀ xs : List AV, xs.all AV.pur = true → ∃ l, renTs ob [] [] xs xs = some l ∧ AllEq l := by
        intro xs
        induction xs with
        | nil => intro _; exact ⟨[], rfl, trivial⟩
        | cons x r ih =>
          intro h
          simp only [List.all_cons, Bool.and_eq_true] at h
          obtain ⟨l1, h1, h2⟩ := ren1_pure (ob := ob) (ρ := []) h.1
          obtain ⟨l2, h3, h4⟩ := ih h.2
          exact ⟨l1 ++ l2, by simp only [renTs, h1, h3, both], allEq_append.2 ⟨h2, h4⟩⟩
      exact key xs hp
    | val a => exact ren1_pure (ob := ob) (ρ := []) (x := .val a) hp
    | slc a b => exact ren1_pure (ob := ob) (ρ := []) (x := .slc a b) hp
    | agg a => exact ren1_pure (ob := ob) (ρ := []) (x := .agg a) hp
    | ref a => exact ren1_pure (ob := ob) (ρ := []) (x := .ref a) hp
    | opt a => exact ren1_pure (ob := ob) (ρ := []) (x := .opt a) hp
    | _ => cases hp
  obtain ⟨l, h1, h2⟩ := hr
  exact ⟨[], r, l, rfl, rfl, Nat.le_refl _, by simp only [h1, renOs, both, List.append_nil], h2, hl⟩
theorem bcall_any {P : Program} {ty : Tys} (keep : Bool) (hT : TyOk P ty) (hm : P.follows .mixedOrders = true) {cs : Nat → List AV → List Ob → Option (AV × List Ob)} {ord : Nat → OT}
    {f : Nat} {fn : Func} {c : Code} {args : List AV} {ob : List Ob} {res : AV} {ob' : List Ob} (hf : P.funcs[f]? = some fn) (hb : fn.body = some c) (he : ∀ vs w, (callFunc f vs).run P w = .ok (.enter f vs) w)
    (hn : args.length ≤ fn.ntmps) (hd : dstOk fn.ntmps c = true) (ho : ordOk .any ty ord c = true)
    (h : ∀ w0 g0, (aexec std ty cs ord c (endK std ty keep fn.results.toList) ⟨ent 0 args, ob⟩).ok [] P w0 g0 ob fn.ntmps (FinOk ob res ob')) : BCall P f args ob res ob' := by
  refine ⟨he, fun w g vs M hL => calls_of_wp hf hb ?_⟩
  have hlen : vs.length = args.length := hL.1
  refine aexec_sound (w0 := w) (g0 := g) (o0 := ob) (N := fn.ntmps) (Q := FinOk ob res ob') hT hm c _ _ ⟨ent 0 args, ob⟩ _ w hd ho (fun c a d v w h => h) (fun e s a w' ht hs hq => ?_) (fun v s a w' ht _ hq => by unfold FinOk at hq; rw [ht] at hq; exact hq.elim) ⟨rfl, ?_, g, M, fun t => ?_, Step.refl⟩ (h w g)
  · have fin : ∀ {T : Tree}, T = (match resultA std ty keep fn.results.toList s with | some (r, ob) => .leaf .ret ⟨[(0, r)], ob⟩ | none => .stuck 71) → T.ok [] P w g ob fn.ntmps (FinOk ob res ob') →
        a.defers = [] ∧ ∃ v, (results fn a.tmps).run P w' = .ok v w' ∧ ∃ v' g', Ending.returned v = .returned v' ∧ Mem w' g' ob' ∧ ARel w' g' ob' v' res ∧ Step w g ob w' g' ob' := fun hT' hq => by
      cases hr : resultA std ty keep fn.results.toList s with
      | none => rw [hr] at hT'; subst hT'; exact (show False from hq).elim
      | some q =>
        obtain ⟨r, ob1⟩ := q
        rw [hr] at hT'
        subst hT'
        obtain ⟨ρ, r', l, h1, h2, h3, h4, h5, h6⟩ := (show FinOk ob res ob' .ret ⟨[(0, r)], ob1⟩ from hq)
        obtain ⟨⟨l1, e1, a1⟩, l2, e2, a2⟩ := both_some h4 h5
        have hF : Fits ob1 ob' ρ := renOs_get _ _ _ e2 a2
        obtain ⟨v, g', k1, k2, k3, k4⟩ := result_sound hT hs hr
        exact ⟨hs.defers, v, k1, v, g'.ren ρ, rfl, k2.ren hF h1, leA_rel (renR_rel hF h1 k3 e1 a1) h6, step_ren hF h1 h2 h3 k4⟩
    cases e with
    | normal => exact fin rfl hq
    | ret => exact fin rfl hq
    | exit i => exact (show False from hq).elim
    | pan v => exact (by have hq : FinOk ob res ob' (.pan v) s := hq; unfold FinOk at hq; rw [ht v rfl] at hq; exact hq.elim)
  · simp; omega
  · show ARel w g ob _ (lk t (ent 0 args))
    rw [lk_ent]
    simp only [Nat.zero_le, if_true, Nat.sub_zero]
    by_cases ht : t < args.length
    · rw [List.getD_eq_getElem?_getD, List.getElem?_eq_getElem ht, Option.getD_some]
      have e : (vs.toArray ++ Array.replicate (fn.ntmps - vs.toArray.size) undef).getD t undef = vs[t]'(by omega) := by
        rw [Array.getD_eq_getD_getElem?, Array.getElem?_append_left (by simp; omega)]
        simp [show t < vs.length by omega]
      rw [e]
      exact (hL.2 t _ _ (List.getElem?_eq_getElem (by omega)) (List.getElem?_eq_getElem ht)).to
    · rw [List.getD_eq_getElem?_getD, List.getElem?_eq_none (by omega)]
      trivial
theorem bcall_of {P : Program} {ty : Tys} (hT : TyOk P ty) (hm : P.follows .mixedOrders = true) {cs : Nat → List AV → List Ob → Option (AV × List Ob)} {ord : Nat → OT}
    {f : Nat} {fn : Func} {c : Code} {args : List AV} {ob : List Ob} {res : AV} {ob' : List Ob} (hf : P.funcs[f]? = some fn) (hb : fn.body = some c) (he : ∀ vs w, (callFunc f vs).run P w = .ok (.enter f vs) w)
    (hn : args.length ≤ fn.ntmps) (hd : dstOk fn.ntmps c = true) (ho : ordOk .any ty ord c = true)
    (h : ∀ w0 g0, (aexec std ty cs ord c (endK std ty false fn.results.toList) ⟨ent 0 args, ob⟩).ok [] P w0 g0 ob fn.ntmps (FinOk ob res ob')) : BCall P f args ob res ob' :=
  bcall_any false hT hm hf hb he hn hd ho h
end Go.Proofs.YtcmjijpofkoogaaGreat
namespace Go.Proofs.YtcmjijpofkoogaaGreat
open Go.RowKit Go.Lib
def tiB (P : Program) (x : TI) : Bool := x.zero.length == x.size && (x.agg || x.size == 1) && decide (x.bytes ≤ 140000) && x.flds.all (fun f => (P.info? f.2).isSome) && x.zero.all (·.oneCell') && x.ok
theorem TiOk.of {P : Program} {t : Nat} {x : TI} (h1 : (P.info? t).map (fun i => (i.size, i.bytes, i.zero.map (·.cells.toList), i.zero.map aggV)) = some (x.size, x.bytes, some x.zero, some x.agg))
    (h2 : (P.underlying t).map shapeOf = some (x.agg, x.elem, x.flds, x.kind, x.sl, x.kd)) (hb : tiB P x = true) (h4 : (P.underlying t).map keyD = some x.key) : TiOk P t x := by
  simp only [tiB, Bool.and_eq_true, Bool.or_eq_true, beq_iff_eq, decide_eq_true_eq] at hb
  obtain ⟨⟨⟨⟨⟨b1, b2⟩, b4⟩, b5⟩, b6⟩, b7⟩ := hb
  exact ⟨h1, h2, b1, fun h => b2.resolve_left (by rw [h]; simp), b4, b5, b6, b7, h4⟩
theorem TyOk.nil {P : Program} : TyOkL P [] := fun _ _ h => by cases h
theorem TyOk.cons {P : Program} {t : Nat} {x : TI} {r : List (Nat × TI)} (h : TiOk P t x) (hr : TyOkL P r) : TyOkL P ((t, x) :: r) := fun u y hu => by
  rcases List.mem_cons.1 hu with h1 | h1
  · cases h1; exact h
  · exact hr u y h1
end Go.Proofs.YtcmjijpofkoogaaGreat
namespace Go.Proofs.YtcmjijpofkoogaaGreat
open Go.RowKit Go.Lib
section
variable {P : Program} {ty : Tys} {Df : List Deferred} {w0 w : World} {g0 : Gh} {o0 : List Ob} {N : Nat} {s s' : St} {a : Act}
theorem seen_sim (ρ : List (Option Nat)) {l : Eqs} (h : seen o0 ρ s s' = some l) (hl : AllEq l) (hs : Sim Df w0 g0 o0 N s a w) : Sim Df w0 g0 o0 N s' a w := by
  unfold seen at h
  split at h
  · rename_i hk
    obtain ⟨ho, hh, hn⟩ := hk
    obtain ⟨⟨l1, h1, hl1⟩, l2, h2, hl2⟩ := both_some h hl
    have hF : Fits s.ob s'.ob ρ := renOs_get _ _ _ h2 hl2
    obtain ⟨g, M, hS, h0⟩ := hs.rel
    have head : ∀ j, j < o0.length → ρ[j]? = some (some j) := fun j hj => by
      have := List.all_eq_true.1 hh j (List.mem_range.2 hj)
      simp only [Bool.and_eq_true, beq_iff_eq] at this
      exact this.1
    refine ⟨hs.defers, hs.size, g.ren ρ, M.ren hF ho, fun t => ?_, ?_⟩
    · have : ∀ (l : List (Nat × AV)) (q : Eqs), renT s s' ρ l = some q → AllEq q → ARel w (g.ren ρ) s'.ob (a.tmps.getD t undef) (lk t l) := by
        intro l
        induction l with
        | nil => intro _ _ _; trivial
        | cons p r ih =>
          obtain ⟨u, x'⟩ := p
          intro q hq hql
          obtain ⟨⟨q1, e1, a1⟩, q2, e2, a2⟩ := both_some hq hql
          show ARel w (g.ren ρ) s'.ob _ (if t = u then x' else lk t r)
          by_cases e : t = u
          · subst e
            rw [if_pos rfl]
            exact ren1_rel hF ho (hS t) e1 a1
          · rw [if_neg e]; exact ih q2 e2 a2
      exact this _ _ h1 hl1
    · refine ⟨h0.os, h0.tape, h0.output, h0.size, h0.keep, fun b id hG => ?_, h0.imm, ⟨h0.ext.A, fun id hid => ?_, fun id hb => ?_, fun id hb => ?_, fun id et sz fz e xs hr => ?_, fun b id hG hs => ?_⟩, ?_⟩
      · obtain ⟨i, _, h3⟩ := ren_Gof hG
        exact h0.own b i h3
      · rw [ren_loc (head id hid)]; exact h0.ext.loc id hid
      · exact hF.isB (head id (isBox_lt hb)) (h0.ext.isb id hb)
      · exact hF.isI (head id (isIt_lt hb)) (h0.ext.isi id hb)
      · have hid := lt_of_some hr
        obtain ⟨fz1, e1, xs1, h3, h4, h5⟩ := h0.ext.row id et sz fz e xs hr
        obtain ⟨fz2, e2, h6, _⟩ := hF.row (head id hid) h3
        have he : e1 = e2 ∨ e < e2 := by
          have := List.all_eq_true.1 hh id (List.mem_range.2 hid)
          simp only [Bool.and_eq_true, hr, h3, h6, beq_iff_eq, Bool.or_eq_true, decide_eq_true_eq] at this
          exact this.2
        rcases he with he | he
        rotate_left
        · exact ⟨fz2, e2, xs1, h6, by omega, fun hee => by omega⟩
        subst he
        exact ⟨fz2, e1, xs1, h6, h4, fun hee => (h5 hee).turn (fun b hb => ⟨hb, rfl⟩) (fun b _ hb => ren_G ho (head id hid) hb) rfl⟩
      · obtain ⟨et, sz, fz, fz', e, xs, xs', h3, h4⟩ := hs
        have hid := lt_of_some h3
        obtain ⟨fz1, e1, xs1, h5, h6, h7⟩ := h0.ext.row id et sz fz e xs h3
        obtain ⟨fz2, e2, h8, _⟩ := hF.row (head id hid) h5
        rw [h8] at h4
        obtain ⟨rfl, rfl, rfl⟩ : fz2 = fz' ∧ e2 = e ∧ xs1 = xs' := by simpa using h4
        have he : e1 = e2 := by
          have := List.all_eq_true.1 hh id (List.mem_range.2 hid)
          simp only [Bool.and_eq_true, h3, h5, h8, beq_iff_eq, Bool.or_eq_true, decide_eq_true_eq] at this
          omega
        subst he
        obtain ⟨h9, h10⟩ := h0.ext.sub b id hG ⟨_, _, _, _, _, _, _, h3, h5⟩
        have h11 := ren_sub (g := g) ho (head id hid) ((h7 rfl).G hG)
        exact ⟨h11.trans h9, h10⟩
      · rw [← hF.1]; exact hn
  · cases h
end
end Go.Proofs.YtcmjijpofkoogaaGreat
namespace Go.Proofs.YtcmjijpofkoogaaGreat
open Go.RowKit Go.Lib
theorem least (p : Nat → Prop) (h : ∃ n, p n) : ∃ n, p n ∧ ∀ m, p m → n ≤ m := by
  obtain ⟨n, hn⟩ := h
  induction n using Nat.strongRecOn with
  | _ n ih =>
    by_cases h : ∃ m, m < n ∧ p m
    · obtain ⟨m, h1, h2⟩ := h
      exact ih m h1 h2
    · exact ⟨n, hn, fun m hm => Nat.le_of_not_lt fun hlt => h ⟨m, hlt, hm⟩⟩
def Seen (o0 : List Ob) (s s' : St) : Prop := ∃ ρ l, seen o0 ρ s s' = some l ∧ AllEq l
section
variable {P : Program} {ty : Tys} {Df : List Deferred} {w0 : World} {g0 : Gh} {o0 : List Ob} {N : Nat}
def RoundOk {X : Type} (o0 : List Ob) (S : X → St) (J : X → Prop) (μ : X → Nat) (x : X) (Q : Ex → St → Prop) : Ex → St → Prop
  | .normal, s => ∃ x', J x' ∧ μ x' < μ x ∧ Seen o0 s (S x')
  | e, s => Q e s
theorem loop_rule (hT : TyOk P ty) (hm : P.follows .mixedOrders = true) {cs : Nat → List AV → List Ob → Option (AV × List Ob)} {ord : Nat → OT} {c : Code} (hd : dstOk N c = true) (ho : ordOk .any ty ord c = true)
    {X : Type} (S : X → St) (J : X → Prop) (μ : X → Nat) {Q : Ex → St → Prop} {s : St} (x0 : X) (h0 : J x0) (hS : Seen o0 s (S x0))
    (round : ∀ x, J x → (aexec std ty cs ord c (fun e s => .leaf e s) (S x)).ok Df P w0 g0 o0 N (RoundOk o0 S J μ x Q)) : WP Df P w0 g0 o0 N (.loop c) Q s := by
  intro a w hs
  obtain ⟨ρ, l, hl, hE⟩ := hS
  let I : Act → World → Prop := fun a w => ∃ x, J x ∧ Sim Df w0 g0 o0 N (S x) a w
  let pm : Act → World → Nat → Prop := fun a w n => ∃ x, J x ∧ Sim Df w0 g0 o0 N (S x) a w ∧ μ x = n
  let m : Act → World → Nat := fun a w => open Classical in if h : ∃ n, pm a w n then Classical.choose (least _ h) else 0
  have hmin : ∀ a w, I a w → pm a w (m a w) ∧ ∀ k, pm a w k → m a w ≤ k := fun a w hI => by
    have h : ∃ n, pm a w n := by
      obtain ⟨x, h1, h2⟩ := hI
      exact ⟨μ x, x, h1, h2, rfl⟩
    have e : m a w = Classical.choose (least _ h) := dif_pos h
    rw [e]
    exact Classical.choose_spec (least _ h)
  refine wp_loop I m ⟨x0, h0, seen_sim ρ hl hE hs⟩ fun a w hI => ?_
  obtain ⟨⟨x, hJ, hx, hμ⟩, hle⟩ := hmin a w hI
  refine aexec_sound (Q := RoundOk o0 S J μ x Q) hT hm c _ _ (S x) a w hd ho (fun c a d v w h => ?_) (fun e s a' w' ht hs' hq => ?_) (fun v s a w ht hs h => ⟨.pan v, s, rfl, fun _ _ => ht, hs, h⟩) hx (round x hJ)
  · obtain ⟨e', s', h1, ht, h2, h3⟩ := h
    cases e' <;> cases h1
    have et : s'.tm = [] := ht _ rfl
    obtain ⟨g, M, _, h0⟩ := h2.rel
    exact ⟨.pan _, s', rfl, ht, ⟨h2.defers, by have := h2.size; simpa [Act.put] using this, g, M, fun t => by rw [et]; trivial, h0⟩, h3⟩
  · cases e with
    | normal =>
      obtain ⟨x', h1, h2, ρ', l', h3, h4⟩ := hq
      have hs2 := seen_sim ρ' h3 h4 hs'
      have hI' : I a' w' := ⟨x', h1, hs2⟩
      refine ⟨hI', Nat.lt_of_le_of_lt ((hmin a' w' hI').2 _ ⟨x', h1, hs2, rfl⟩) ?_⟩
      rw [← hμ]; exact h2
    | exit i => exact ⟨.exit i, s, rfl, ht, hs', hq⟩
    | ret => exact ⟨.ret, s, rfl, ht, hs', hq⟩
    | pan v => exact ⟨.pan v, s, rfl, ht, hs', hq⟩
end
end Go.Proofs.YtcmjijpofkoogaaGreat
namespace Go.Proofs.YtcmjijpofkoogaaGreat
open Go.RowKit Go.Lib
section
variable {P : Program} {w w' : World} {g : Gh} {ob : List Ob}
theorem argsNil {vs : List Value} (h : ARelL w g ob vs []) : vs = [] := List.eq_nil_of_length_eq_zero h.1
theorem argsCons {vs : List Value} {x : AV} {r : List AV} (h : ARelL w g ob vs (x :: r)) : ∃ v vs', vs = v :: vs' ∧ ARel1 w g ob v x ∧ ARelL w g ob vs' r := by
  cases vs with
  | nil => exact absurd h.1 (by simp)
  | cons v vs => exact ⟨v, vs, rfl, h.2 0 v x rfl rfl, by simpa using h.1, fun j a b ha hb => h.2 (j + 1) a b (by simpa using ha) (by simpa using hb)⟩
theorem argVal {v u : Value} (h : ARel1 w g ob v (.val u)) : v = u := ARel.valEq (ARel1.to h)
theorem argRd {v : Value} {sz : Nat} {xs : List AV} (h : ARel1 w g [] v (.slc sz xs)) (M : Mem w g []) :
    ∃ A c ys, v = .slice A xs.length c ∧ Rd w (fun _ => True) sz A xs.length c ys ∧ Alike w g.A ys (flatA xs) :=
  elems_rel (s := ⟨[], []⟩) M (ARel1.to h) rfl
theorem alikeVals {A : Nat → Nat → Prop} {us : List Value} : ∀ {ys : List Value}, Alike w A ys (us.map .val) → ys = us := by
  induction us with
  | nil => intro ys h; exact List.eq_nil_of_length_eq_zero h.1
  | cons u us ih =>
    intro ys h
    cases ys with
    | nil => exact absurd h.1 (by simp)
    | cons y ys =>
      have h1 : PRel w A y (.val u) := h.2 0 y (.val u) rfl rfl
      have h2 : y = u := by cases h1; rfl
      rw [h2, ih (ys := ys) ⟨by simpa using h.1, fun j a b ha hb => h.2 (j + 1) a b (by simpa using ha) (by simpa using hb)⟩]
theorem flatVals (us : List Value) : flatA (us.map .val) = us.map .val := by
  induction us with
  | nil => rfl
  | cons u us ih => simp only [flatA, List.map_cons, List.flatMap_cons] at ih ⊢; rw [ih]; rfl
theorem rd_slc {A' : Nat → Nat → Prop} {S : Nat → Prop} {sz n c : Nat} {A : Option Addr} {ys : List Value} {xs : List AV} (hr : Rd w S sz A n c ys) (hS : ∀ b o, S b → A' b o) (hn : n = xs.length) (hw : ∀ x ∈ xs, x.cells.length = sz) (hA : ∀ a, A = some a → ∃ b o, a = ⟨b, o, none⟩)
    (hal : Alike w A' ys (flatA xs)) : PRel w A' (.slice A n c) (.slc sz xs) := by
  subst hn
  obtain ⟨h1, h2, h3, h4, h5⟩ := hr
  cases A with
  | none =>
    have hc := h4 rfl
    subst hc
    have : xs = [] := List.eq_nil_of_length_eq_zero (by omega)
    subst this
    exact PRel.nil sz
  | some a =>
    obtain ⟨b, o, rfl⟩ := hA a rfl
    have pos : ∀ (j : Nat) u, (flatA xs)[j]? = some u → 0 < xs.length := fun j u hu => by
      cases xs with
      | nil => simp at hu
      | cons _ _ => simp
    have h5' : 0 < xs.length → S b ∧ ∀ j u, ys[j]? = some u → w.cell? ⟨b, o + j, none⟩ = some u := fun h => by
      obtain ⟨b', o', h6, h7, h8⟩ := h5 h
      cases h6
      exact ⟨h7, h8⟩
    have get : ∀ (j : Nat) u, (flatA xs)[j]? = some u → ∃ y, ys[j]? = some y ∧ ys.getD j undef = y := fun j u hu => by
      have hj : j < ys.length := by rw [hal.1]; exact lt_of_some hu
      exact ⟨ys[j], List.getElem?_eq_getElem hj, by rw [List.getD_eq_getElem?_getD, List.getElem?_eq_getElem hj]; rfl⟩
    refine PRel.slc b o c sz xs (fun j => ys.getD j undef) h2 h3 hw (fun j u hu => ?_) (fun j u hu => ?_)
    · obtain ⟨y, hy, he⟩ := get j u hu
      obtain ⟨h7, h8⟩ := h5' (pos j u hu)
      exact ⟨hS _ _ h7, by rw [he]; exact h8 j y hy⟩
    · obtain ⟨y, hy, he⟩ := get j u hu
      rw [he]; exact hal.2 j y u hy hu
theorem leT_rel : ∀ {vs : List Value} {xs ys : List AV}, ARelL w g ob vs xs → leT xs ys → ARelL w g ob vs ys
  | vs, [], [], h, _ => h
  | _, [], _ :: _, _, hl => hl.elim
  | _, _ :: _, [], _, hl => hl.elim
  | [], x :: r, y :: r', h, _ => absurd h.1 (by simp)
  | v :: vs, x :: r, y :: r', h, hl => by
    have h1 := h.2 0 v x rfl rfl
    have h2 : ARelL w g ob vs r' := leT_rel (xs := r) ⟨by simpa using h.1, fun j a b ha hb => h.2 (j + 1) a b (by simpa using ha) (by simpa using hb)⟩ hl.2
    refine ⟨by simp [h2.1], fun j a b ha hb => ?_⟩
    cases j with
    | zero =>
      obtain rfl : v = a := by simpa using ha
      obtain rfl : y = b := by simpa using hb
      exact leA1_rel h1 hl.1
    | succ j => exact h2.2 j a b (by simpa using ha) (by simpa using hb)
theorem BCall.le {f : Nat} {args args' : List AV} {ob ob' : List Ob} {res : AV} (h : BCall P f args' ob res ob') (hl : leT args args') : BCall P f args ob res ob' :=
  ⟨h.1, fun w g vs M hL => h.2 w g vs M (leT_rel hL hl)⟩
theorem BCall.forget {f : Nat} {args : List AV} {ob ob' : List Ob} {res : AV} (h : BCall P f args ob res ob') : BCall P f args ob .dead ob' :=
  ⟨h.1, fun w g vs M hL => (h.2 w g vs M hL).mono fun e w' ⟨v, g', h1, h2, h3, h4⟩ => ⟨v, g', h1, h2, trivial, h4⟩⟩
theorem BCall.res {f : Nat} {args : List AV} {ob ob' : List Ob} {res res' : AV} (h : BCall P f args ob res ob') (hl : leA res res') : BCall P f args ob res' ob' :=
  ⟨h.1, fun w g vs M hL => (h.2 w g vs M hL).mono fun e w' ⟨v, g', h1, h2, h3, h4⟩ => ⟨v, g', h1, h2, leA_rel h3 hl, h4⟩⟩
theorem BCall.hand {f : Nat} {args : List AV} {res : AV} (he : ∀ vs w, (callFunc f vs).run P w = .ok (.enter f vs) w)
    (h : ∀ (w : World) (g : Gh) (vs : List Value), Mem w g [] → ARelL w g [] vs args → Calls P f vs.toArray w fun e w' => ∃ v, e = .returned v ∧ Below w.heap.size w w' ∧ ARel w' (g.imm w w') [] v res) : BCall P f args [] res [] :=
  ⟨he, fun w g vs M hL => (h w g vs M hL).mono fun e w' ⟨v, h1, hb, hr⟩ => ⟨v, g.imm w w', h1, M.immNew hb, hr, Step.immNew M hb⟩⟩
end
end Go.Proofs.YtcmjijpofkoogaaGreat
namespace Go.Proofs.YtcmjijpofkoogaaGreat
open Go.RowKit Go.Lib
def invO (ob ob2 ob2' obr : List Ob) (ρ ρ' : List (Option Nat)) : Bool := (List.range ob.length).all fun i => match invR ρ i with
  | some j => ρ'[i]? == some (some j) && (match ob[i]?, ob2[j]?, ob2'[j]?, obr[i]? with
    | some (.row _ _ _ e0 _), some (.row _ _ _ e2 _), some (.row _ _ _ e2' _), some (.row _ _ _ er _) => decide (e0 < er) || (e0 == er && e2 == e2')
    | _, _, _, _ => true)
  | none => false
section
variable {w w' : World} {g g' : Gh} {ob ob2 ob2' obr : List Ob} {ρ ρ' : List (Option Nat)}
theorem step_tell (hF : Fits ob ob2 ρ) (ho : onceR ρ = true) (hF' : Fits ob2' obr ρ') (ho' : onceR ρ' = true) (hi : invO ob ob2 ob2' obr ρ ρ' = true) (hn : ob.length ≤ obr.length) (h0 : Step w (g.ren ρ) ob2 w' g' ob2') : Step w g ob w' (g'.ren ρ') obr := by
  have head : ∀ i, i < ob.length → ∃ j, ρ[j]? = some (some i) ∧ ρ'[i]? = some (some j) ∧ ∀ e0 e2 e2' er et sz fz xs et2 sz2 fz2 xs2 et3 sz3 fz3 xs3 et4 sz4 fz4 xs4,
      ob[i]? = some (.row et sz fz e0 xs) → ob2[j]? = some (.row et2 sz2 fz2 e2 xs2) → ob2'[j]? = some (.row et3 sz3 fz3 e2' xs3) → obr[i]? = some (.row et4 sz4 fz4 er xs4) → e0 < er ∨ (e0 = er ∧ e2 = e2') := fun i hi' => by
    have := List.all_eq_true.1 hi i (List.mem_range.2 hi')
    split at this
    · rename_i j hj
      simp only [Bool.and_eq_true, beq_iff_eq] at this
      refine ⟨j, invR_get hj, this.1, ?_⟩
      intro e0 e2 e2' er et sz fz xs et2 sz2 fz2 xs2 et3 sz3 fz3 xs3 et4 sz4 fz4 xs4 h1 h2 h3 h4
      have h5 := this.2
      simp only [h1, h2, h3, h4, Bool.or_eq_true, Bool.and_eq_true, beq_iff_eq, decide_eq_true_eq] at h5
      exact h5
    · cases this
  refine ⟨h0.os, h0.tape, h0.output, h0.size, fun b hb hG => h0.keep b hb (by simp [Gh.ren, hG]), fun b id hG => ?_, fun b o hA => ?_, ⟨h0.ext.A, fun id hid => ?_, fun id hb => ?_, fun id hb => ?_, fun id et sz fz e xs hr => ?_, fun b id hG hs => ?_⟩, hn⟩
  · obtain ⟨i, _, h3⟩ := ren_Gof hG
    rcases h0.own b i h3 with ⟨id', h4⟩ | h4
    · obtain ⟨i', _, h5⟩ := ren_Gof h4
      exact .inl ⟨i', h5⟩
    · exact .inr h4
  · rcases h0.imm b o hA with h1 | ⟨id, h1⟩ | h1
    · exact .inl h1
    · obtain ⟨i', _, h5⟩ := ren_Gof h1
      exact .inr (.inl ⟨i', h5⟩)
    · exact .inr (.inr h1)
  · obtain ⟨j, h1, h2, _⟩ := head id hid
    have hj : j < ob2.length := hF.1 ▸ lt_of_some h1
    rw [ren_loc h2, h0.ext.loc j hj, ren_loc h1]
  · obtain ⟨j, h1, h2, _⟩ := head id (isBox_lt hb)
    exact hF'.isB h2 (h0.ext.isb j (hF.isB h1 hb))
  · obtain ⟨j, h1, h2, _⟩ := head id (isIt_lt hb)
    exact hF'.isI h2 (h0.ext.isi j (hF.isI h1 hb))
  · obtain ⟨j, h1, h2, h3⟩ := head id (lt_of_some hr)
    obtain ⟨fz2, e2, h4, _⟩ := hF.row h1 hr
    obtain ⟨fz3, e3, xs3, h5, h6, h7⟩ := h0.ext.row j et sz fz2 e2 xs h4
    obtain ⟨fz4, e4, h8, _⟩ := hF'.row h2 h5
    refine ⟨fz4, e4, xs3, h8, by rcases h3 _ _ _ _ _ _ _ _ _ _ _ _ _ _ _ _ _ _ _ _ hr h4 h5 h8 with h | h <;> omega, fun he => ?_⟩
    have hee : e3 = e2 := by
      rcases h3 _ _ _ _ _ _ _ _ _ _ _ _ _ _ _ _ _ _ _ _ hr h4 h5 h8 with h | h
      · omega
      · exact h.2.symm
    exact (h7 hee).turn (fun b hb => ⟨ren_G ho h1 hb, ren_sub ho h1 hb⟩) (fun b _ h11 => ren_G ho' h2 h11) rfl
  · obtain ⟨et, sz, fz, fz', e, xs, xs', h4, h5⟩ := hs
    obtain ⟨j, h1, h2, h3⟩ := head id (lt_of_some h4)
    obtain ⟨fz2, e2, h6, _⟩ := hF.row h1 h4
    obtain ⟨fz3, e3, xs3, h7, h8, h9⟩ := h0.ext.row j et sz fz2 e2 xs h6
    obtain ⟨fz4, e4, h10, _⟩ := hF'.row h2 h7
    rw [h10] at h5
    obtain ⟨rfl, rfl, rfl⟩ : fz4 = fz' ∧ e4 = e ∧ xs3 = xs' := by simpa using h5
    have hee : e2 = e3 := by
      rcases h3 _ _ _ _ _ _ _ _ _ _ _ _ _ _ _ _ _ _ _ _ h4 h6 h7 h10 with h | h
      · omega
      · exact h.2
    subst hee
    have hG2 := ren_G (g := g) ho h1 hG
    obtain ⟨h11, h12⟩ := h0.ext.sub b j hG2 ⟨_, _, _, _, _, _, _, h6, h7⟩
    have hG3 := (h9 rfl).G hG2
    have e1 := ren_sub (g := g) ho h1 hG
    have e2 := ren_sub (g := g') ho' h2 hG3
    exact ⟨e2.trans (h11.trans e1), fun hb => h12 (by rw [e1]; exact hb)⟩
theorem BCall.tell {P : Program} {f : Nat} {args args2 : List AV} {res2 res' res : AV} {l l' : Eqs} (h : BCall P f args2 ob2 res2 ob2') (ρ ρ' : List (Option Nat)) (h1 : onceR ρ = true) (h1' : onceR ρ' = true) (hi : invO ob ob2 ob2' obr ρ ρ' = true) (hn : ob.length ≤ obr.length)
    (ha : both (renTs ob ob2 ρ args args2) (renOs ob ob2 ρ ρ ob2) = some l) (hl : AllEq l) (hr : both (renR ob2' obr ρ' res2 res') (renOs ob2' obr ρ' ρ' obr) = some l') (hl' : AllEq l') (h6 : leA res' res) : BCall P f args ob res obr := by
  refine ⟨h.1, fun w g vs M hL => ?_⟩
  obtain ⟨⟨l1, e1, a1⟩, l2, e2, a2⟩ := both_some ha hl
  obtain ⟨⟨l3, e3, a3⟩, l4, e4, a4⟩ := both_some hr hl'
  have hF : Fits ob ob2 ρ := renOs_get _ _ _ e2 a2
  have hF' : Fits ob2' obr ρ' := renOs_get _ _ _ e4 a4
  obtain ⟨k1, k2⟩ := renTs_rel hF h1 _ _ _ _ e1 a1 hL.1 hL.2
  refine (h.2 w (g.ren ρ) vs (M.ren hF h1) ⟨k1, k2⟩).mono fun e w' ⟨v, g', k1, k2, k3, k4⟩ => ?_
  exact ⟨v, g'.ren ρ', k1, k2.ren hF' h1', leA_rel (renR_rel hF' h1' k3 e3 a3) h6, step_tell hF h1 hF' h1' hi hn k4⟩
end
section
variable {P : Program} {ty : Tys} {Df : List Deferred} {w0 : World} {g0 : Gh} {o0 : List Ob} {N : Nat}
end
end Go.Proofs.YtcmjijpofkoogaaGreat
namespace Go.Proofs.YtcmjijpofkoogaaGreat
def tysL : List (Nat × TI) := [(1, ⟨1, false, 0, [], [.nilFunc], none, 8, false, 7, true, 0⟩),
  (2, ⟨1, false, 0, [], [.int .i64 0], some .i64, 8, false, 3, true, 0⟩),
  (3, ⟨1, false, 0, [], [.int .i64 0], some .i64, 8, false, 3, true, 0⟩),
  (4, ⟨1, false, 0, [], [.bool false], none, 1, false, 5, true, 0⟩),
  (5, ⟨1, false, 0, [], [.int .u8 0], some .u8, 1, false, 3, true, 0⟩),
  (6, ⟨1, false, 0, [], [.int .u8 0], some .u8, 1, false, 3, true, 0⟩),
  (7, ⟨4, true, 0, [(0, 2), (1, 3), (2, 4), (3, 6)], [.int .i64 0, .int .i64 0, .bool false, .int .u8 0], none, 24, false, 1, true, 0⟩),
  (8, ⟨4, true, 0, [(0, 2), (1, 3), (2, 4), (3, 6)], [.int .i64 0, .int .i64 0, .bool false, .int .u8 0], none, 24, false, 1, true, 0⟩),
  (9, ⟨1, false, 0, [], [.string ⟨#[]⟩], none, 16, false, 6, true, 0⟩),
  (10, ⟨1, false, 0, [], [.string ⟨#[]⟩], none, 16, false, 6, true, 0⟩),
  (11, ⟨1, false, 0, [], [.string ⟨#[]⟩], none, 16, false, 6, true, 0⟩),
  (12, ⟨1, false, 0, [], [.int .u64 0], some .u64, 8, false, 3, true, 0⟩),
  (13, ⟨2, true, 0, [(0, 9), (1, 12)], [.string ⟨#[]⟩, .int .u64 0], none, 24, false, 1, true, 0⟩),
  (14, ⟨2, true, 0, [(0, 9), (1, 12)], [.string ⟨#[]⟩, .int .u64 0], none, 24, false, 1, true, 0⟩),
  (15, ⟨1, false, 0, [], [.pointer none], none, 8, false, 4, true, 0⟩),
  (16, ⟨1, false, 0, [], [.pointer none], none, 8, false, 4, true, 0⟩),
  (17, ⟨1, false, 0, [], [.pointer none], none, 8, false, 4, true, 0⟩),
  (18, ⟨1, true, 0, [(0, 17)], [.pointer none], none, 8, false, 1, true, 0⟩),
  (19, ⟨1, true, 0, [(0, 17)], [.pointer none], none, 8, false, 1, true, 0⟩),
  (21, ⟨1, false, 0, [], [.int .i32 0], some .i32, 4, false, 3, true, 0⟩),
  (22, ⟨7, true, 0, [(0, 3), (1, 3), (2, 3), (3, 3), (4, 3), (5, 4), (6, 4)], [.int .i64 0, .int .i64 0, .int .i64 0, .int .i64 0, .int .i64 0, .bool false, .bool false], none, 48, false, 1, true, 0⟩),
  (23, ⟨7, true, 0, [(0, 3), (1, 3), (2, 3), (3, 3), (4, 3), (5, 4), (6, 4)], [.int .i64 0, .int .i64 0, .int .i64 0, .int .i64 0, .int .i64 0, .bool false, .bool false], none, 48, false, 1, true, 0⟩),
  (24, ⟨1, false, 21, [], [.slice none 0 0], none, 24, true, 2, true, 0⟩),
  (25, ⟨1, false, 0, [], [.nilFunc], none, 8, false, 7, true, 0⟩),
  (26, ⟨1, false, 0, [], [.nilFunc], none, 8, false, 7, true, 0⟩),
  (27, ⟨7, true, 0, [(0, 3), (1, 3), (2, 3), (3, 3), (4, 3), (5, 4), (6, 4)], [.int .i64 0, .int .i64 0, .int .i64 0, .int .i64 0, .int .i64 0, .bool false, .bool false], none, 48, false, 1, true, 0⟩),
  (28, ⟨1, false, 0, [], [.nilFunc], none, 8, false, 7, true, 0⟩),
  (29, ⟨1, false, 0, [], [.nilFunc], none, 8, false, 7, true, 0⟩),
  (30, ⟨1, false, 0, [], [.nilFunc], none, 8, false, 7, true, 0⟩),
  (31, ⟨1, false, 0, [], [.nilFunc], none, 8, false, 7, true, 0⟩),
  (32, ⟨1, false, 3, [], [.slice none 0 0], none, 24, true, 2, true, 0⟩),
  (33, ⟨6, true, 0, [(0, 3), (1, 32), (2, 32), (3, 3), (4, 9), (5, 9)], [.int .i64 0, .slice none 0 0, .slice none 0 0, .int .i64 0, .string ⟨#[]⟩, .string ⟨#[]⟩], none, 96, false, 1, true, 0⟩),
  (34, ⟨6, true, 0, [(0, 3), (1, 32), (2, 32), (3, 3), (4, 9), (5, 9)], [.int .i64 0, .slice none 0 0, .slice none 0 0, .int .i64 0, .string ⟨#[]⟩, .string ⟨#[]⟩], none, 96, false, 1, true, 0⟩),
  (35, ⟨1, false, 0, [], [.pointer none], none, 8, false, 4, true, 0⟩),
  (36, ⟨1, false, 0, [], [.int .i64 0], some .i64, 8, false, 3, true, 0⟩),
  (37, ⟨1, false, 0, [], [.nilFunc], none, 8, false, 7, true, 0⟩),
  (38, ⟨6, true, 0, [(0, 3), (1, 32), (2, 32), (3, 3), (4, 9), (5, 9)], [.int .i64 0, .slice none 0 0, .slice none 0 0, .int .i64 0, .string ⟨#[]⟩, .string ⟨#[]⟩], none, 96, false, 1, true, 0⟩),
  (39, ⟨1, false, 0, [], [.nilFunc], none, 8, false, 7, true, 0⟩),
  (40, ⟨1, false, 0, [], [.nilFunc], none, 8, false, 7, true, 0⟩),
  (41, ⟨1, false, 5, [], [.slice none 0 0], none, 24, true, 2, true, 0⟩),
  (42, ⟨1, false, 0, [], [.nilFunc], none, 8, false, 7, true, 0⟩),
  (43, ⟨1, false, 0, [], [.nilFunc], none, 8, false, 7, true, 0⟩),
  (44, ⟨1, false, 0, [], [.nilFunc], none, 8, false, 7, true, 0⟩),
  (45, ⟨1, false, 0, [], [.nilFunc], none, 8, false, 7, true, 0⟩),
  (46, ⟨3, true, 0, [(0, 3), (1, 3), (2, 3)], [.int .i64 0, .int .i64 0, .int .i64 0], none, 24, false, 1, true, 0⟩),
  (47, ⟨3, true, 0, [(0, 3), (1, 3), (2, 3)], [.int .i64 0, .int .i64 0, .int .i64 0], none, 24, false, 1, true, 0⟩),
  (48, ⟨1, false, 56, [], [.slice none 0 0], none, 24, true, 2, true, 0⟩),
  (49, ⟨6, true, 0, [(0, 47), (3, 48), (4, 4), (5, 4)], [.int .i64 0, .int .i64 0, .int .i64 0, .slice none 0 0, .bool false, .bool false], none, 56, false, 1, true, 0⟩),
  (50, ⟨6, true, 0, [(0, 47), (3, 48), (4, 4), (5, 4)], [.int .i64 0, .int .i64 0, .int .i64 0, .slice none 0 0, .bool false, .bool false], none, 56, false, 1, true, 0⟩),
  (51, ⟨1, false, 0, [], [.nilFunc], none, 8, false, 7, true, 0⟩),
  (52, ⟨1, false, 0, [], [.nilFunc], none, 8, false, 7, true, 0⟩),
  (53, ⟨1, false, 0, [], [.nilFunc], none, 8, false, 7, true, 0⟩),
  (54, ⟨1, false, 24, [], [.slice none 0 0], none, 24, true, 2, true, 0⟩),
  (55, ⟨9, true, 0, [(0, 47), (3, 47), (6, 47)], [.int .i64 0, .int .i64 0, .int .i64 0, .int .i64 0, .int .i64 0, .int .i64 0, .int .i64 0, .int .i64 0, .int .i64 0], none, 72, false, 1, true, 0⟩),
  (56, ⟨9, true, 0, [(0, 47), (3, 47), (6, 47)], [.int .i64 0, .int .i64 0, .int .i64 0, .int .i64 0, .int .i64 0, .int .i64 0, .int .i64 0, .int .i64 0, .int .i64 0], none, 72, false, 1, true, 0⟩),
  (57, ⟨1, false, 0, [], [.nilFunc], none, 8, false, 7, true, 0⟩),
  (58, ⟨1, false, 0, [], [.nilFunc], none, 8, false, 7, true, 0⟩),
  (59, ⟨1, false, 0, [], [.nilFunc], none, 8, false, 7, true, 0⟩),
  (60, ⟨1, false, 0, [], [.nilFunc], none, 8, false, 7, true, 0⟩),
  (61, ⟨1, false, 0, [], [.nilFunc], none, 8, false, 7, true, 0⟩),
  (62, ⟨1, false, 0, [], [.nilFunc], none, 8, false, 7, true, 0⟩),
  (63, ⟨1, false, 0, [], [.nilFunc], none, 8, false, 7, true, 0⟩),
  (64, ⟨3, true, 0, [(0, 3), (1, 3), (2, 3)], [.int .i64 0, .int .i64 0, .int .i64 0], none, 24, false, 1, true, 0⟩),
  (65, ⟨1, false, 71, [], [.slice none 0 0], none, 24, true, 2, true, 0⟩),
  (66, ⟨6, true, 0, [(0, 64), (3, 65), (4, 4), (5, 4)], [.int .i64 0, .int .i64 0, .int .i64 0, .slice none 0 0, .bool false, .bool false], none, 56, false, 1, true, 0⟩),
  (67, ⟨6, true, 0, [(0, 64), (3, 65), (4, 4), (5, 4)], [.int .i64 0, .int .i64 0, .int .i64 0, .slice none 0 0, .bool false, .bool false], none, 56, false, 1, true, 0⟩),
  (68, ⟨1, false, 0, [], [.nilFunc], none, 8, false, 7, true, 0⟩),
  (69, ⟨1, false, 0, [], [.nilFunc], none, 8, false, 7, true, 0⟩),
  (70, ⟨9, true, 0, [(0, 64), (3, 64), (6, 64)], [.int .i64 0, .int .i64 0, .int .i64 0, .int .i64 0, .int .i64 0, .int .i64 0, .int .i64 0, .int .i64 0, .int .i64 0], none, 72, false, 1, true, 0⟩),
  (71, ⟨9, true, 0, [(0, 64), (3, 64), (6, 64)], [.int .i64 0, .int .i64 0, .int .i64 0, .int .i64 0, .int .i64 0, .int .i64 0, .int .i64 0, .int .i64 0, .int .i64 0], none, 72, false, 1, true, 0⟩),
  (72, ⟨1, false, 0, [], [.nilFunc], none, 8, false, 7, true, 0⟩),
  (73, ⟨1, false, 0, [], [.nilFunc], none, 8, false, 7, true, 0⟩),
  (74, ⟨1, false, 0, [], [.nilFunc], none, 8, false, 7, true, 0⟩),
  (75, ⟨1, false, 0, [], [.nilFunc], none, 8, false, 7, true, 0⟩),
  (76, ⟨1, false, 0, [], [.nilFunc], none, 8, false, 7, true, 0⟩),
  (78, ⟨1, false, 0, [], [.nilFunc], none, 8, false, 7, true, 0⟩),
  (79, ⟨1, false, 193, [], [.slice none 0 0], none, 24, true, 2, true, 0⟩),
  (81, ⟨1, false, 0, [], [.nilFunc], none, 8, false, 7, true, 0⟩),
  (82, ⟨1, false, 79, [], [.slice none 0 0], none, 24, true, 2, true, 0⟩),
  (83, ⟨5, true, 0, [(0, 41), (1, 3), (2, 82), (3, 82), (4, 3)], [.slice none 0 0, .int .i64 0, .slice none 0 0, .slice none 0 0, .int .i64 0], none, 88, false, 1, true, 0⟩),
  (84, ⟨5, true, 0, [(0, 41), (1, 3), (2, 82), (3, 82), (4, 3)], [.slice none 0 0, .int .i64 0, .slice none 0 0, .slice none 0 0, .int .i64 0], none, 88, false, 1, true, 0⟩),
  (86, ⟨1, false, 0, [], [.nilFunc], none, 8, false, 7, true, 0⟩),
  (87, ⟨1, false, 0, [], [.nilFunc], none, 8, false, 7, true, 0⟩),
  (88, ⟨1, false, 0, [], [.nilFunc], none, 8, false, 7, true, 0⟩),
  (89, ⟨1, false, 0, [], [.nilFunc], none, 8, false, 7, true, 0⟩),
  (90, ⟨1, false, 0, [], [.pointer none], none, 8, false, 4, true, 0⟩),
  (91, ⟨1, false, 47, [], [.slice none 0 0], none, 24, true, 2, true, 0⟩),
  (92, ⟨1, false, 0, [], [.nilFunc], none, 8, false, 7, true, 0⟩),
  (93, ⟨2, true, 0, [(0, 91), (1, 3)], [.slice none 0 0, .int .i64 0], none, 32, false, 1, true, 0⟩),
  (94, ⟨2, true, 0, [(0, 91), (1, 3)], [.slice none 0 0, .int .i64 0], none, 32, false, 1, true, 0⟩),
  (95, ⟨1, false, 0, [], [.nilFunc], none, 8, false, 7, true, 0⟩),
  (97, ⟨1, false, 0, [], [.nilFunc], none, 8, false, 7, true, 0⟩),
  (98, ⟨1, false, 0, [], [.nilFunc], none, 8, false, 7, true, 0⟩),
  (99, ⟨1, false, 0, [], [.nilFunc], none, 8, false, 7, true, 0⟩),
  (100, ⟨1, false, 0, [], [.nilFunc], none, 8, false, 7, true, 0⟩),
  (101, ⟨3, true, 9, [], [.string ⟨#[]⟩, .string ⟨#[]⟩, .string ⟨#[]⟩], none, 48, false, 103, true, 0⟩),
  (102, ⟨1, false, 64, [], [.slice none 0 0], none, 24, true, 2, true, 0⟩),
  (103, ⟨1, false, 0, [], [.nilFunc], none, 8, false, 7, true, 0⟩),
  (104, ⟨1, false, 0, [], [.nilFunc], none, 8, false, 7, true, 0⟩),
  (106, ⟨1, false, 0, [], [.nilFunc], none, 8, false, 7, true, 0⟩),
  (107, ⟨3, true, 0, [(0, 9), (1, 9), (2, 9)], [.string ⟨#[]⟩, .string ⟨#[]⟩, .string ⟨#[]⟩], none, 48, false, 1, true, 0⟩),
  (108, ⟨3, true, 0, [(0, 9), (1, 9), (2, 9)], [.string ⟨#[]⟩, .string ⟨#[]⟩, .string ⟨#[]⟩], none, 48, false, 1, true, 0⟩),
  (109, ⟨1, false, 370, [], [.slice none 0 0], none, 24, true, 2, true, 0⟩),
  (110, ⟨1, false, 419, [], [.slice none 0 0], none, 24, true, 2, true, 0⟩),
  (111, ⟨1, false, 113, [], [.slice none 0 0], none, 24, true, 2, true, 0⟩),
  (112, ⟨9, true, 0, [(0, 3), (1, 108), (4, 109), (5, 110), (6, 9), (7, 9), (8, 111)], [.int .i64 0, .string ⟨#[]⟩, .string ⟨#[]⟩, .string ⟨#[]⟩, .slice none 0 0, .slice none 0 0, .string ⟨#[]⟩, .string ⟨#[]⟩, .slice none 0 0], none, 160, false, 1, true, 0⟩),
  (113, ⟨9, true, 0, [(0, 3), (1, 108), (4, 109), (5, 110), (6, 9), (7, 9), (8, 111)], [.int .i64 0, .string ⟨#[]⟩, .string ⟨#[]⟩, .string ⟨#[]⟩, .slice none 0 0, .slice none 0 0, .string ⟨#[]⟩, .string ⟨#[]⟩, .slice none 0 0], none, 160, false, 1, true, 0⟩),
  (114, ⟨13, true, 0, [(0, 3), (1, 3), (2, 113), (11, 3), (12, 4)], [.int .i64 0, .int .i64 0, .int .i64 0, .string ⟨#[]⟩, .string ⟨#[]⟩, .string ⟨#[]⟩, .slice none 0 0, .slice none 0 0, .string ⟨#[]⟩, .string ⟨#[]⟩, .slice none 0 0, .int .i64 0, .bool false], none, 192, false, 1, true, 0⟩),
  (115, ⟨13, true, 0, [(0, 3), (1, 3), (2, 113), (11, 3), (12, 4)], [.int .i64 0, .int .i64 0, .int .i64 0, .string ⟨#[]⟩, .string ⟨#[]⟩, .string ⟨#[]⟩, .slice none 0 0, .slice none 0 0, .string ⟨#[]⟩, .string ⟨#[]⟩, .slice none 0 0, .int .i64 0, .bool false], none, 192, false, 1, true, 0⟩),
  (116, ⟨1, false, 0, [], [.nilFunc], none, 8, false, 7, true, 0⟩),
  (117, ⟨1, false, 0, [], [.pointer none], none, 8, false, 4, true, 0⟩),
  (118, ⟨4, true, 0, [(0, 3), (1, 3), (2, 24), (3, 32)], [.int .i64 0, .int .i64 0, .slice none 0 0, .slice none 0 0], none, 64, false, 1, true, 0⟩),
  (119, ⟨4, true, 0, [(0, 3), (1, 3), (2, 24), (3, 32)], [.int .i64 0, .int .i64 0, .slice none 0 0, .slice none 0 0], none, 64, false, 1, true, 0⟩),
  (120, ⟨1, false, 0, [], [.pointer none], none, 8, false, 4, true, 0⟩),
  (121, ⟨1, false, 270, [], [.slice none 0 0], none, 24, true, 2, true, 0⟩),
  (122, ⟨7, true, 0, [(0, 119), (4, 120), (5, 3), (6, 121)], [.int .i64 0, .int .i64 0, .slice none 0 0, .slice none 0 0, .pointer none, .int .i64 0, .slice none 0 0], none, 104, false, 1, true, 0⟩),
  (123, ⟨7, true, 0, [(0, 119), (4, 120), (5, 3), (6, 121)], [.int .i64 0, .int .i64 0, .slice none 0 0, .slice none 0 0, .pointer none, .int .i64 0, .slice none 0 0], none, 104, false, 1, true, 0⟩),
  (124, ⟨1, false, 0, [], [.nilFunc], none, 8, false, 7, true, 0⟩),
  (125, ⟨15, true, 0, [(0, 27), (7, 123), (14, 24)], [.int .i64 0, .int .i64 0, .int .i64 0, .int .i64 0, .int .i64 0, .bool false, .bool false, .int .i64 0, .int .i64 0, .slice none 0 0, .slice none 0 0, .pointer none, .int .i64 0, .slice none 0 0, .slice none 0 0], none, 176, false, 1, true, 0⟩),
  (126, ⟨15, true, 0, [(0, 27), (7, 123), (14, 24)], [.int .i64 0, .int .i64 0, .int .i64 0, .int .i64 0, .int .i64 0, .bool false, .bool false, .int .i64 0, .int .i64 0, .slice none 0 0, .slice none 0 0, .pointer none, .int .i64 0, .slice none 0 0, .slice none 0 0], none, 176, false, 1, true, 0⟩),
  (127, ⟨1, false, 0, [], [.nilFunc], none, 8, false, 7, true, 0⟩),
  (128, ⟨1, false, 0, [], [.nilFunc], none, 8, false, 7, true, 0⟩),
  (129, ⟨1, false, 0, [], [.nilFunc], none, 8, false, 7, true, 0⟩),
  (131, ⟨1, false, 0, [], [.nilFunc], none, 8, false, 7, true, 0⟩),
  (132, ⟨1, false, 0, [], [.nilFunc], none, 8, false, 7, true, 0⟩),
  (134, ⟨1, false, 0, [], [.nilFunc], none, 8, false, 7, true, 0⟩),
  (135, ⟨1, false, 0, [], [.nilFunc], none, 8, false, 7, true, 0⟩),
  (136, ⟨1, false, 0, [], [.int .u64 0], some .u64, 8, false, 3, true, 0⟩),
  (138, ⟨1, false, 0, [], [.nilFunc], none, 8, false, 7, true, 0⟩),
  (139, ⟨1, false, 0, [], [.nilFunc], none, 8, false, 7, true, 0⟩),
  (140, ⟨1, false, 143, [], [.slice none 0 0], none, 24, true, 2, true, 0⟩),
  (141, ⟨1, false, 0, [], [.nilFunc], none, 8, false, 7, true, 0⟩),
  (142, ⟨3, true, 0, [(0, 21), (1, 3), (2, 3)], [.int .i32 0, .int .i64 0, .int .i64 0], none, 24, false, 1, true, 0⟩),
  (143, ⟨3, true, 0, [(0, 21), (1, 3), (2, 3)], [.int .i32 0, .int .i64 0, .int .i64 0], none, 24, false, 1, true, 0⟩),
  (144, ⟨2, true, 0, [(0, 3), (1, 3)], [.int .i64 0, .int .i64 0], none, 16, false, 1, true, 0⟩),
  (145, ⟨2, true, 0, [(0, 3), (1, 3)], [.int .i64 0, .int .i64 0], none, 16, false, 1, true, 0⟩),
  (147, ⟨1, false, 0, [], [.pointer none], none, 8, false, 4, true, 0⟩),
  (148, ⟨1, false, 0, [], [.pointer none], none, 8, false, 4, true, 0⟩),
  (149, ⟨1, false, 0, [], [.nilFunc], none, 8, false, 7, true, 0⟩),
  (150, ⟨1, false, 0, [], [.pointer none], none, 8, false, 4, true, 0⟩),
  (151, ⟨23, true, 0, [(0, 41), (1, 123), (8, 3), (9, 150), (10, 148), (11, 4), (12, 4), (13, 4), (14, 113)], [.slice none 0 0, .int .i64 0, .int .i64 0, .slice none 0 0, .slice none 0 0, .pointer none, .int .i64 0, .slice none 0 0, .int .i64 0, .pointer none, .pointer none, .bool false, .bool false, .bool false, .int .i64 0, .string ⟨#[]⟩, .string ⟨#[]⟩, .string ⟨#[]⟩, .slice none 0 0, .slice none 0 0, .string ⟨#[]⟩, .string ⟨#[]⟩, .slice none 0 0], none, 320, false, 1, true, 0⟩),
  (152, ⟨23, true, 0, [(0, 41), (1, 123), (8, 3), (9, 150), (10, 148), (11, 4), (12, 4), (13, 4), (14, 113)], [.slice none 0 0, .int .i64 0, .int .i64 0, .slice none 0 0, .slice none 0 0, .pointer none, .int .i64 0, .slice none 0 0, .int .i64 0, .pointer none, .pointer none, .bool false, .bool false, .bool false, .int .i64 0, .string ⟨#[]⟩, .string ⟨#[]⟩, .string ⟨#[]⟩, .slice none 0 0, .slice none 0 0, .string ⟨#[]⟩, .string ⟨#[]⟩, .slice none 0 0], none, 320, false, 1, true, 0⟩),
  (153, ⟨1, false, 0, [], [.pointer none], none, 8, false, 4, true, 0⟩),
  (154, ⟨1, false, 0, [], [.nilFunc], none, 8, false, 7, true, 0⟩),
  (155, ⟨1, false, 0, [], [.nilFunc], none, 8, false, 7, true, 0⟩),
  (156, ⟨1, false, 0, [], [.pointer none], none, 8, false, 4, true, 0⟩),
  (157, ⟨2, true, 0, [(0, 24), (1, 32)], [.slice none 0 0, .slice none 0 0], none, 48, false, 1, true, 0⟩),
  (158, ⟨2, true, 0, [(0, 24), (1, 32)], [.slice none 0 0, .slice none 0 0], none, 48, false, 1, true, 0⟩),
  (159, ⟨1, false, 158, [], [.slice none 0 0], none, 24, true, 2, true, 0⟩),
  (160, ⟨3, true, 0, [(0, 41), (1, 153), (2, 159)], [.slice none 0 0, .pointer none, .slice none 0 0], none, 56, false, 1, true, 0⟩),
  (161, ⟨3, true, 0, [(0, 41), (1, 153), (2, 159)], [.slice none 0 0, .pointer none, .slice none 0 0], none, 56, false, 1, true, 0⟩),
  (162, ⟨1, false, 0, [], [.nilFunc], none, 8, false, 7, true, 0⟩),
  (163, ⟨1, false, 0, [], [.nilFunc], none, 8, false, 7, true, 0⟩),
  (164, ⟨1, false, 9, [], [.slice none 0 0], none, 24, true, 2, true, 0⟩),
  (165, ⟨1, false, 168, [], [.slice none 0 0], none, 24, true, 2, true, 0⟩),
  (166, ⟨1, false, 0, [], [.pointer none], none, 8, false, 4, true, 0⟩),
  (167, ⟨5, true, 0, [(0, 120), (1, 3), (2, 3), (3, 3), (4, 166)], [.pointer none, .int .i64 0, .int .i64 0, .int .i64 0, .pointer none], none, 40, false, 1, true, 0⟩),
  (168, ⟨5, true, 0, [(0, 120), (1, 3), (2, 3), (3, 3), (4, 166)], [.pointer none, .int .i64 0, .int .i64 0, .int .i64 0, .pointer none], none, 40, false, 1, true, 0⟩),
  (169, ⟨1, false, 0, [], [.nilFunc], none, 8, false, 7, true, 0⟩),
  (170, ⟨1, false, 0, [], [.nilFunc], none, 8, false, 7, true, 0⟩),
  (171, ⟨1, false, 0, [], [.nilFunc], none, 8, false, 7, true, 0⟩),
  (172, ⟨1, false, 0, [], [.nilFunc], none, 8, false, 7, true, 0⟩),
  (173, ⟨1, false, 0, [], [.nilFunc], none, 8, false, 7, true, 0⟩),
  (175, ⟨1, false, 0, [], [.nilFunc], none, 8, false, 7, true, 0⟩),
  (176, ⟨1, false, 0, [], [.nilFunc], none, 8, false, 7, true, 0⟩),
  (177, ⟨1, false, 0, [], [.nilFunc], none, 8, false, 7, true, 0⟩),
  (178, ⟨1, false, 0, [], [.nilFunc], none, 8, false, 7, true, 0⟩),
  (179, ⟨1, false, 41, [], [.slice none 0 0], none, 24, true, 2, true, 0⟩),
  (180, ⟨1, false, 0, [], [.nilFunc], none, 8, false, 7, true, 0⟩),
  (181, ⟨1, false, 0, [], [.nilFunc], none, 8, false, 7, true, 0⟩),
  (182, ⟨1, false, 0, [], [.nilFunc], none, 8, false, 7, true, 0⟩),
  (183, ⟨1, false, 0, [], [.pointer none], none, 8, false, 4, true, 0⟩),
  (184, ⟨20, true, 0, [(0, 41), (1, 123), (8, 168), (13, 38), (19, 79)], [.slice none 0 0, .int .i64 0, .int .i64 0, .slice none 0 0, .slice none 0 0, .pointer none, .int .i64 0, .slice none 0 0, .pointer none, .int .i64 0, .int .i64 0, .int .i64 0, .pointer none, .int .i64 0, .slice none 0 0, .slice none 0 0, .int .i64 0, .string ⟨#[]⟩, .string ⟨#[]⟩, .slice none 0 0], none, 288, false, 1, true, 0⟩),
  (185, ⟨20, true, 0, [(0, 41), (1, 123), (8, 168), (13, 38), (19, 79)], [.slice none 0 0, .int .i64 0, .int .i64 0, .slice none 0 0, .slice none 0 0, .pointer none, .int .i64 0, .slice none 0 0, .pointer none, .int .i64 0, .int .i64 0, .int .i64 0, .pointer none, .int .i64 0, .slice none 0 0, .slice none 0 0, .int .i64 0, .string ⟨#[]⟩, .string ⟨#[]⟩, .slice none 0 0], none, 288, false, 1, true, 0⟩),
  (186, ⟨1, false, 0, [], [.nilFunc], none, 8, false, 7, true, 0⟩),
  (187, ⟨1, false, 0, [], [.nilFunc], none, 8, false, 7, true, 0⟩),
  (188, ⟨1, false, 0, [], [.nilFunc], none, 8, false, 7, true, 0⟩),
  (189, ⟨1, false, 0, [], [.nilFunc], none, 8, false, 7, true, 0⟩),
  (190, ⟨2, true, 0, [(0, 3), (1, 3)], [.int .i64 0, .int .i64 0], none, 16, false, 1, true, 0⟩),
  (191, ⟨2, true, 0, [(0, 3), (1, 3)], [.int .i64 0, .int .i64 0], none, 16, false, 1, true, 0⟩),
  (192, ⟨3, true, 0, [(0, 191), (2, 41)], [.int .i64 0, .int .i64 0, .slice none 0 0], none, 40, false, 1, true, 0⟩),
  (193, ⟨3, true, 0, [(0, 191), (2, 41)], [.int .i64 0, .int .i64 0, .slice none 0 0], none, 40, false, 1, true, 0⟩),
  (194, ⟨1, false, 0, [], [.nilFunc], none, 8, false, 7, true, 0⟩),
  (195, ⟨1, false, 0, [], [.nilFunc], none, 8, false, 7, true, 0⟩),
  (196, ⟨1, false, 0, [], [.nilFunc], none, 8, false, 7, true, 0⟩),
  (197, ⟨1, false, 0, [], [.nilFunc], none, 8, false, 7, true, 0⟩),
  (198, ⟨1, false, 0, [], [.int .u32 0], some .u32, 4, false, 3, true, 0⟩),
  (200, ⟨1, false, 0, [], [.nilFunc], none, 8, false, 7, true, 0⟩),
  (201, ⟨1, false, 0, [], [.int .u64 0], some .u64, 8, false, 3, true, 0⟩),
  (203, ⟨1, false, 0, [], [.nilFunc], none, 8, false, 7, true, 0⟩),
  (204, ⟨1, false, 0, [], [.nilFunc], none, 8, false, 7, true, 0⟩),
  (206, ⟨1, false, 0, [], [.nilFunc], none, 8, false, 7, true, 0⟩),
  (207, ⟨4, true, 0, [(0, 150), (1, 164), (2, 3), (3, 3)], [.pointer none, .slice none 0 0, .int .i64 0, .int .i64 0], none, 48, false, 1, true, 0⟩),
  (208, ⟨4, true, 0, [(0, 150), (1, 164), (2, 3), (3, 3)], [.pointer none, .slice none 0 0, .int .i64 0, .int .i64 0], none, 48, false, 1, true, 0⟩),
  (209, ⟨1, false, 0, [], [.nilFunc], none, 8, false, 7, true, 0⟩),
  (210, ⟨4, true, 0, [(0, 3), (1, 3), (2, 3), (3, 4)], [.int .i64 0, .int .i64 0, .int .i64 0, .bool false], none, 32, false, 1, true, 0⟩),
  (211, ⟨4, true, 0, [(0, 3), (1, 3), (2, 3), (3, 4)], [.int .i64 0, .int .i64 0, .int .i64 0, .bool false], none, 32, false, 1, true, 0⟩),
  (213, ⟨1, false, 0, [], [.nilFunc], none, 8, false, 7, true, 0⟩),
  (214, ⟨1, false, 0, [], [.nilFunc], none, 8, false, 7, true, 0⟩),
  (215, ⟨1, false, 0, [], [.nilFunc], none, 8, false, 7, true, 0⟩),
  (216, ⟨1, false, 383, [], [.map none], none, 8, false, 8, true, 427⟩),
  (217, ⟨1, false, 251, [], [.map none], none, 8, false, 8, true, 9⟩),
  (218, ⟨4, true, 0, [(0, 216), (1, 217), (2, 4), (3, 3)], [.map none, .map none, .bool false, .int .i64 0], none, 32, false, 1, true, 0⟩),
  (219, ⟨4, true, 0, [(0, 216), (1, 217), (2, 4), (3, 3)], [.map none, .map none, .bool false, .int .i64 0], none, 32, false, 1, true, 0⟩),
  (220, ⟨1, false, 0, [], [.nilFunc], none, 8, false, 7, true, 0⟩),
  (221, ⟨1, false, 223, [], [.slice none 0 0], none, 24, true, 2, true, 0⟩),
  (222, ⟨1, false, 0, [], [.nilFunc], none, 8, false, 7, true, 0⟩),
  (223, ⟨3, true, 0, [(0, 21), (1, 3), (2, 3)], [.int .i32 0, .int .i64 0, .int .i64 0], none, 24, false, 1, true, 0⟩),
  (224, ⟨1, false, 230, [], [.slice none 0 0], none, 24, true, 2, true, 0⟩),
  (225, ⟨1, true, 0, [(0, 224)], [.slice none 0 0], none, 24, false, 1, true, 0⟩),
  (226, ⟨1, true, 0, [(0, 224)], [.slice none 0 0], none, 24, false, 1, true, 0⟩),
  (227, ⟨1, false, 0, [], [.pointer none], none, 8, false, 4, true, 0⟩),
  (228, ⟨1, false, 0, [], [.nilFunc], none, 8, false, 7, true, 0⟩),
  (229, ⟨6, true, 0, [(0, 3), (1, 3), (2, 3), (3, 4), (4, 41), (5, 32)], [.int .i64 0, .int .i64 0, .int .i64 0, .bool false, .slice none 0 0, .slice none 0 0], none, 80, false, 1, true, 0⟩),
  (230, ⟨6, true, 0, [(0, 3), (1, 3), (2, 3), (3, 4), (4, 41), (5, 32)], [.int .i64 0, .int .i64 0, .int .i64 0, .bool false, .slice none 0 0, .slice none 0 0], none, 80, false, 1, true, 0⟩),
  (231, ⟨1, false, 211, [], [.slice none 0 0], none, 24, true, 2, true, 0⟩),
  (232, ⟨1, false, 0, [], [.nilFunc], none, 8, false, 7, true, 0⟩),
  (233, ⟨1, false, 0, [], [.nilFunc], none, 8, false, 7, true, 0⟩),
  (235, ⟨1, false, 0, [], [.nilFunc], none, 8, false, 7, true, 0⟩),
  (237, ⟨1, false, 0, [], [.nilFunc], none, 8, false, 7, true, 0⟩),
  (239, ⟨1, false, 0, [], [.nilFunc], none, 8, false, 7, true, 0⟩),
  (240, ⟨1, false, 0, [], [.nilFunc], none, 8, false, 7, true, 0⟩),
  (241, ⟨3, true, 0, [(0, 3), (1, 3), (2, 3)], [.int .i64 0, .int .i64 0, .int .i64 0], none, 24, false, 1, true, 0⟩),
  (242, ⟨13, true, 0, [(0, 241), (3, 241), (6, 241), (9, 241), (12, 4)], [.int .i64 0, .int .i64 0, .int .i64 0, .int .i64 0, .int .i64 0, .int .i64 0, .int .i64 0, .int .i64 0, .int .i64 0, .int .i64 0, .int .i64 0, .int .i64 0, .bool false], none, 104, false, 1, true, 0⟩),
  (243, ⟨13, true, 0, [(0, 241), (3, 241), (6, 241), (9, 241), (12, 4)], [.int .i64 0, .int .i64 0, .int .i64 0, .int .i64 0, .int .i64 0, .int .i64 0, .int .i64 0, .int .i64 0, .int .i64 0, .int .i64 0, .int .i64 0, .int .i64 0, .bool false], none, 104, false, 1, true, 0⟩),
  (244, ⟨1, false, 0, [], [.nilFunc], none, 8, false, 7, true, 0⟩),
  (245, ⟨2, true, 0, [(0, 3), (1, 3)], [.int .i64 0, .int .i64 0], none, 16, false, 1, true, 0⟩),
  (246, ⟨2, true, 0, [(0, 3), (1, 3)], [.int .i64 0, .int .i64 0], none, 16, false, 1, true, 0⟩),
  (248, ⟨1, false, 0, [], [.nilFunc], none, 8, false, 7, true, 0⟩),
  (249, ⟨1, false, 0, [], [.nilFunc], none, 8, false, 7, true, 0⟩),
  (250, ⟨1, false, 0, [], [.nilFunc], none, 8, false, 7, true, 0⟩),
  (251, ⟨1, false, 253, [], [.slice none 0 0], none, 24, true, 2, true, 0⟩),
  (252, ⟨5, true, 0, [(0, 9), (1, 9), (2, 164), (3, 3), (4, 24)], [.string ⟨#[]⟩, .string ⟨#[]⟩, .slice none 0 0, .int .i64 0, .slice none 0 0], none, 88, false, 1, true, 0⟩),
  (253, ⟨5, true, 0, [(0, 9), (1, 9), (2, 164), (3, 3), (4, 24)], [.string ⟨#[]⟩, .string ⟨#[]⟩, .slice none 0 0, .int .i64 0, .slice none 0 0], none, 88, false, 1, true, 0⟩),
  (254, ⟨1, false, 0, [], [.nilFunc], none, 8, false, 7, true, 0⟩),
  (255, ⟨1, false, 0, [], [.nilFunc], none, 8, false, 7, true, 0⟩),
  (256, ⟨1, false, 0, [], [.nilFunc], none, 8, false, 7, true, 0⟩),
  (257, ⟨1, false, 0, [], [.nilFunc], none, 8, false, 7, true, 0⟩),
  (258, ⟨1, false, 0, [], [.nilFunc], none, 8, false, 7, true, 0⟩),
  (259, ⟨1, false, 0, [], [.nilFunc], none, 8, false, 7, true, 0⟩),
  (260, ⟨1, false, 0, [], [.nilFunc], none, 8, false, 7, true, 0⟩),
  (261, ⟨1, false, 0, [], [.nilFunc], none, 8, false, 7, true, 0⟩),
  (262, ⟨1, false, 0, [], [.nilFunc], none, 8, false, 7, true, 0⟩),
  (263, ⟨1, false, 0, [], [.nilFunc], none, 8, false, 7, true, 0⟩),
  (264, ⟨1, false, 0, [], [.nilFunc], none, 8, false, 7, true, 0⟩),
  (265, ⟨1, false, 0, [], [.nilFunc], none, 8, false, 7, true, 0⟩),
  (266, ⟨1, false, 0, [], [.nilFunc], none, 8, false, 7, true, 0⟩),
  (267, ⟨1, false, 0, [], [.nilFunc], none, 8, false, 7, true, 0⟩),
  (268, ⟨1, false, 0, [], [.nilFunc], none, 8, false, 7, true, 0⟩),
  (269, ⟨3, true, 0, [(0, 191), (2, 3)], [.int .i64 0, .int .i64 0, .int .i64 0], none, 24, false, 1, true, 0⟩),
  (270, ⟨3, true, 0, [(0, 191), (2, 3)], [.int .i64 0, .int .i64 0, .int .i64 0], none, 24, false, 1, true, 0⟩),
  (271, ⟨1, false, 0, [], [.nilFunc], none, 8, false, 7, true, 0⟩),
  (272, ⟨1, false, 0, [], [.nilFunc], none, 8, false, 7, true, 0⟩),
  (273, ⟨1, false, 0, [], [.nilFunc], none, 8, false, 7, true, 0⟩),
  (274, ⟨1, false, 0, [], [.nilFunc], none, 8, false, 7, true, 0⟩),
  (275, ⟨1, false, 0, [], [.nilFunc], none, 8, false, 7, true, 0⟩),
  (276, ⟨1, false, 0, [], [.nilFunc], none, 8, false, 7, true, 0⟩),
  (277, ⟨1, false, 0, [], [.nilFunc], none, 8, false, 7, true, 0⟩),
  (278, ⟨1, false, 0, [], [.nilFunc], none, 8, false, 7, true, 0⟩),
  (279, ⟨9, true, 0, [(0, 123), (7, 3), (8, 4)], [.int .i64 0, .int .i64 0, .slice none 0 0, .slice none 0 0, .pointer none, .int .i64 0, .slice none 0 0, .int .i64 0, .bool false], none, 120, false, 1, true, 0⟩),
  (280, ⟨9, true, 0, [(0, 123), (7, 3), (8, 4)], [.int .i64 0, .int .i64 0, .slice none 0 0, .slice none 0 0, .pointer none, .int .i64 0, .slice none 0 0, .int .i64 0, .bool false], none, 120, false, 1, true, 0⟩),
  (281, ⟨1, false, 0, [], [.pointer none], none, 8, false, 4, true, 0⟩),
  (282, ⟨1, false, 0, [], [.nilFunc], none, 8, false, 7, true, 0⟩),
  (283, ⟨3, true, 0, [(0, 9), (1, 3), (2, 3)], [.string ⟨#[]⟩, .int .i64 0, .int .i64 0], none, 32, false, 1, true, 0⟩),
  (284, ⟨3, true, 0, [(0, 9), (1, 3), (2, 3)], [.string ⟨#[]⟩, .int .i64 0, .int .i64 0], none, 32, false, 1, true, 0⟩),
  (285, ⟨15, true, 284, [], [.string ⟨#[]⟩, .int .i64 0, .int .i64 0, .string ⟨#[]⟩, .int .i64 0, .int .i64 0, .string ⟨#[]⟩, .int .i64 0, .int .i64 0, .string ⟨#[]⟩, .int .i64 0, .int .i64 0, .string ⟨#[]⟩, .int .i64 0, .int .i64 0], none, 160, false, 105, true, 0⟩),
  (286, ⟨1, false, 0, [], [.nilFunc], none, 8, false, 7, true, 0⟩),
  (287, ⟨1, false, 0, [], [.nilFunc], none, 8, false, 7, true, 0⟩),
  (288, ⟨1, false, 0, [], [.nilFunc], none, 8, false, 7, true, 0⟩),
  (289, ⟨1, false, 0, [], [.nilFunc], none, 8, false, 7, true, 0⟩),
  (290, ⟨1, false, 0, [], [.nilFunc], none, 8, false, 7, true, 0⟩),
  (291, ⟨1, false, 0, [], [.nilFunc], none, 8, false, 7, true, 0⟩),
  (293, ⟨1, false, 0, [], [.nilFunc], none, 8, false, 7, true, 0⟩),
  (294, ⟨1, false, 0, [], [.nilFunc], none, 8, false, 7, true, 0⟩),
  (295, ⟨1, false, 0, [], [.pointer none], none, 8, false, 4, true, 0⟩),
  (296, ⟨2, true, 0, [(0, 295), (1, 41)], [.pointer none, .slice none 0 0], none, 32, false, 1, true, 0⟩),
  (297, ⟨2, true, 0, [(0, 295), (1, 41)], [.pointer none, .slice none 0 0], none, 32, false, 1, true, 0⟩),
  (301, ⟨1, false, 0, [], [.nilFunc], none, 8, false, 7, true, 0⟩),
  (302, ⟨1, false, 0, [], [.nilFunc], none, 8, false, 7, true, 0⟩),
  (303, ⟨1, false, 0, [], [.pointer none], none, 8, false, 4, true, 0⟩),
  (304, ⟨1, false, 241, [], [.slice none 0 0], none, 24, true, 2, true, 0⟩),
  (305, ⟨1, false, 0, [], [.nilFunc], none, 8, false, 7, true, 0⟩),
  (306, ⟨3, true, 0, [(0, 24), (1, 304), (2, 3)], [.slice none 0 0, .slice none 0 0, .int .i64 0], none, 56, false, 1, true, 0⟩),
  (307, ⟨3, true, 0, [(0, 24), (1, 304), (2, 3)], [.slice none 0 0, .slice none 0 0, .int .i64 0], none, 56, false, 1, true, 0⟩),
  (308, ⟨1, false, 0, [], [.nilFunc], none, 8, false, 7, true, 0⟩),
  (309, ⟨1, false, 0, [], [.nilFunc], none, 8, false, 7, true, 0⟩),
  (310, ⟨1, false, 0, [], [.pointer none], none, 8, false, 4, true, 0⟩),
  (312, ⟨1, false, 0, [], [.pointer none], none, 8, false, 4, true, 0⟩),
  (313, ⟨4, true, 0, [(0, 150), (1, 3), (2, 164), (3, 3)], [.pointer none, .int .i64 0, .slice none 0 0, .int .i64 0], none, 48, false, 1, true, 0⟩),
  (314, ⟨4, true, 0, [(0, 150), (1, 3), (2, 164), (3, 3)], [.pointer none, .int .i64 0, .slice none 0 0, .int .i64 0], none, 48, false, 1, true, 0⟩),
  (315, ⟨1, false, 0, [], [.nilFunc], none, 8, false, 7, true, 0⟩),
  (316, ⟨1, false, 0, [], [.nilFunc], none, 8, false, 7, true, 0⟩),
  (317, ⟨1, false, 0, [], [.nilFunc], none, 8, false, 7, true, 0⟩),
  (318, ⟨1, false, 0, [], [.nilFunc], none, 8, false, 7, true, 0⟩),
  (319, ⟨1, false, 0, [], [.nilFunc], none, 8, false, 7, true, 0⟩),
  (320, ⟨1, false, 0, [], [.nilFunc], none, 8, false, 7, true, 0⟩),
  (321, ⟨1, false, 0, [], [.nilFunc], none, 8, false, 7, true, 0⟩),
  (322, ⟨1, false, 0, [], [.nilFunc], none, 8, false, 7, true, 0⟩),
  (323, ⟨1, false, 0, [], [.nilFunc], none, 8, false, 7, true, 0⟩),
  (325, ⟨1, false, 0, [], [.nilFunc], none, 8, false, 7, true, 0⟩),
  (326, ⟨1, false, 0, [], [.nilFunc], none, 8, false, 7, true, 0⟩),
  (327, ⟨1, false, 0, [], [.nilFunc], none, 8, false, 7, true, 0⟩),
  (329, ⟨1, false, 0, [], [.nilFunc], none, 8, false, 7, true, 0⟩),
  (331, ⟨1, false, 0, [], [.nilFunc], none, 8, false, 7, true, 0⟩),
  (332, ⟨1, false, 0, [], [.nilFunc], none, 8, false, 7, true, 0⟩),
  (334, ⟨1, false, 0, [], [.nilFunc], none, 8, false, 7, true, 0⟩),
  (335, ⟨1, false, 0, [], [.nilFunc], none, 8, false, 7, true, 0⟩),
  (336, ⟨2, true, 0, [(0, 9), (1, 24)], [.string ⟨#[]⟩, .slice none 0 0], none, 40, false, 1, true, 0⟩),
  (337, ⟨2, true, 0, [(0, 9), (1, 24)], [.string ⟨#[]⟩, .slice none 0 0], none, 40, false, 1, true, 0⟩),
  (338, ⟨1, false, 0, [], [.nilFunc], none, 8, false, 7, true, 0⟩),
  (339, ⟨1, false, 0, [], [.nilFunc], none, 8, false, 7, true, 0⟩),
  (340, ⟨1, false, 0, [], [.nilFunc], none, 8, false, 7, true, 0⟩),
  (341, ⟨1, false, 0, [], [.nilFunc], none, 8, false, 7, true, 0⟩),
  (342, ⟨1, false, 0, [], [.nilFunc], none, 8, false, 7, true, 0⟩),
  (343, ⟨1, false, 0, [], [.nilFunc], none, 8, false, 7, true, 0⟩),
  (344, ⟨1, false, 0, [], [.nilFunc], none, 8, false, 7, true, 0⟩),
  (345, ⟨1, false, 0, [], [.nilFunc], none, 8, false, 7, true, 0⟩),
  (346, ⟨1, false, 0, [], [.nilFunc], none, 8, false, 7, true, 0⟩),
  (347, ⟨1, false, 0, [], [.nilFunc], none, 8, false, 7, true, 0⟩),
  (348, ⟨1, false, 0, [], [.nilFunc], none, 8, false, 7, true, 0⟩),
  (349, ⟨2, true, 0, [(0, 21), (1, 21)], [.int .i32 0, .int .i32 0], none, 8, false, 1, true, 0⟩),
  (350, ⟨2, true, 0, [(0, 21), (1, 21)], [.int .i32 0, .int .i32 0], none, 8, false, 1, true, 0⟩),
  (351, ⟨1, false, 350, [], [.slice none 0 0], none, 24, true, 2, true, 0⟩),
  (352, ⟨1, false, 0, [], [.nilFunc], none, 8, false, 7, true, 0⟩),
  (353, ⟨1, false, 0, [], [.nilFunc], none, 8, false, 7, true, 0⟩),
  (354, ⟨1, false, 0, [], [.nilFunc], none, 8, false, 7, true, 0⟩),
  (355, ⟨1, false, 0, [], [.nilFunc], none, 8, false, 7, true, 0⟩),
  (356, ⟨1, false, 0, [], [.nilFunc], none, 8, false, 7, true, 0⟩),
  (358, ⟨1, false, 0, [], [.nilFunc], none, 8, false, 7, true, 0⟩),
  (359, ⟨1, false, 0, [], [.nilFunc], none, 8, false, 7, true, 0⟩),
  (361, ⟨1, false, 0, [], [.nilFunc], none, 8, false, 7, true, 0⟩),
  (363, ⟨1, false, 0, [], [.nilFunc], none, 8, false, 7, true, 0⟩),
  (365, ⟨1, false, 0, [], [.nilFunc], none, 8, false, 7, true, 0⟩),
  (366, ⟨1, false, 0, [], [.nilFunc], none, 8, false, 7, true, 0⟩),
  (367, ⟨1, false, 0, [], [.nilFunc], none, 8, false, 7, true, 0⟩),
  (368, ⟨1, false, 0, [], [.nilFunc], none, 8, false, 7, true, 0⟩),
  (369, ⟨2, true, 0, [(0, 9), (1, 9)], [.string ⟨#[]⟩, .string ⟨#[]⟩], none, 32, false, 1, true, 0⟩),
  (370, ⟨2, true, 0, [(0, 9), (1, 9)], [.string ⟨#[]⟩, .string ⟨#[]⟩], none, 32, false, 1, true, 0⟩),
  (371, ⟨2, true, 0, [(0, 281), (1, 109)], [.pointer none, .slice none 0 0], none, 32, false, 1, true, 0⟩),
  (372, ⟨2, true, 0, [(0, 281), (1, 109)], [.pointer none, .slice none 0 0], none, 32, false, 1, true, 0⟩),
  (373, ⟨1, false, 0, [], [.nilFunc], none, 8, false, 7, true, 0⟩),
  (374, ⟨1, false, 0, [], [.nilFunc], none, 8, false, 7, true, 0⟩),
  (375, ⟨1, false, 0, [], [.nilFunc], none, 8, false, 7, true, 0⟩),
  (376, ⟨1, false, 0, [], [.nilFunc], none, 8, false, 7, true, 0⟩),
  (377, ⟨1, false, 0, [], [.pointer none], none, 8, false, 4, true, 0⟩),
  (378, ⟨1, false, 0, [], [.nilFunc], none, 8, false, 7, true, 0⟩),
  (379, ⟨1, false, 0, [], [.nilFunc], none, 8, false, 7, true, 0⟩),
  (380, ⟨1, false, 0, [], [.nilFunc], none, 8, false, 7, true, 0⟩),
  (381, ⟨1, false, 0, [], [.nilFunc], none, 8, false, 7, true, 0⟩),
  (382, ⟨9, true, 0, [(0, 3), (1, 9), (2, 24), (3, 4), (4, 9), (5, 9), (6, 9), (7, 9), (8, 251)], [.int .i64 0, .string ⟨#[]⟩, .slice none 0 0, .bool false, .string ⟨#[]⟩, .string ⟨#[]⟩, .string ⟨#[]⟩, .string ⟨#[]⟩, .slice none 0 0], none, 144, false, 1, true, 0⟩),
  (383, ⟨9, true, 0, [(0, 3), (1, 9), (2, 24), (3, 4), (4, 9), (5, 9), (6, 9), (7, 9), (8, 251)], [.int .i64 0, .string ⟨#[]⟩, .slice none 0 0, .bool false, .string ⟨#[]⟩, .string ⟨#[]⟩, .string ⟨#[]⟩, .string ⟨#[]⟩, .slice none 0 0], none, 144, false, 1, true, 0⟩),
  (385, ⟨1, false, 0, [], [.nilFunc], none, 8, false, 7, true, 0⟩),
  (386, ⟨1, false, 0, [], [.nilFunc], none, 8, false, 7, true, 0⟩),
  (387, ⟨1, false, 0, [], [.nilFunc], none, 8, false, 7, true, 0⟩),
  (388, ⟨1, false, 0, [], [.nilFunc], none, 8, false, 7, true, 0⟩),
  (389, ⟨1, false, 0, [], [.nilFunc], none, 8, false, 7, true, 0⟩),
  (390, ⟨1, false, 0, [], [.nilFunc], none, 8, false, 7, true, 0⟩),
  (391, ⟨1, false, 0, [], [.nilFunc], none, 8, false, 7, true, 0⟩),
  (392, ⟨1, false, 0, [], [.nilFunc], none, 8, false, 7, true, 0⟩),
  (393, ⟨1, false, 0, [], [.nilFunc], none, 8, false, 7, true, 0⟩),
  (394, ⟨1, false, 337, [], [.slice none 0 0], none, 24, true, 2, true, 0⟩),
  (395, ⟨1, false, 0, [], [.nilFunc], none, 8, false, 7, true, 0⟩),
  (396, ⟨1, false, 0, [], [.nilFunc], none, 8, false, 7, true, 0⟩),
  (397, ⟨1, false, 0, [], [.nilFunc], none, 8, false, 7, true, 0⟩),
  (398, ⟨1, false, 0, [], [.nilFunc], none, 8, false, 7, true, 0⟩),
  (399, ⟨1, false, 0, [], [.nilFunc], none, 8, false, 7, true, 0⟩),
  (400, ⟨1, false, 0, [], [.nilFunc], none, 8, false, 7, true, 0⟩),
  (401, ⟨1, false, 0, [], [.nilFunc], none, 8, false, 7, true, 0⟩),
  (402, ⟨1, false, 0, [], [.nilFunc], none, 8, false, 7, true, 0⟩),
  (403, ⟨1, false, 0, [], [.pointer none], none, 8, false, 4, true, 0⟩),
  (404, ⟨2, true, 0, [(0, 24), (1, 3)], [.slice none 0 0, .int .i64 0], none, 32, false, 1, true, 0⟩),
  (405, ⟨2, true, 0, [(0, 24), (1, 3)], [.slice none 0 0, .int .i64 0], none, 32, false, 1, true, 0⟩),
  (407, ⟨1, false, 0, [], [.nilFunc], none, 8, false, 7, true, 0⟩),
  (408, ⟨1, false, 0, [], [.nilFunc], none, 8, false, 7, true, 0⟩),
  (409, ⟨1, false, 0, [], [.nilFunc], none, 8, false, 7, true, 0⟩),
  (410, ⟨1, false, 413, [], [.slice none 0 0], none, 24, true, 2, true, 0⟩),
  (411, ⟨1, false, 0, [], [.nilFunc], none, 8, false, 7, true, 0⟩),
  (412, ⟨3, true, 0, [(0, 9), (1, 24), (2, 4)], [.string ⟨#[]⟩, .slice none 0 0, .bool false], none, 48, false, 1, true, 0⟩),
  (413, ⟨3, true, 0, [(0, 9), (1, 24), (2, 4)], [.string ⟨#[]⟩, .slice none 0 0, .bool false], none, 48, false, 1, true, 0⟩),
  (414, ⟨1, false, 0, [], [.nilFunc], none, 8, false, 7, true, 0⟩),
  (416, ⟨1, false, 0, [], [.nilFunc], none, 8, false, 7, true, 0⟩),
  (417, ⟨1, false, 0, [], [.nilFunc], none, 8, false, 7, true, 0⟩),
  (418, ⟨5, true, 0, [(0, 108), (3, 9), (4, 4)], [.string ⟨#[]⟩, .string ⟨#[]⟩, .string ⟨#[]⟩, .string ⟨#[]⟩, .bool false], none, 72, false, 1, true, 0⟩),
  (419, ⟨5, true, 0, [(0, 108), (3, 9), (4, 4)], [.string ⟨#[]⟩, .string ⟨#[]⟩, .string ⟨#[]⟩, .string ⟨#[]⟩, .bool false], none, 72, false, 1, true, 0⟩),
  (420, ⟨1, false, 0, [], [.nilFunc], none, 8, false, 7, true, 0⟩),
  (421, ⟨1, false, 0, [], [.nilFunc], none, 8, false, 7, true, 0⟩),
  (423, ⟨1, false, 0, [], [.nilFunc], none, 8, false, 7, true, 0⟩),
  (424, ⟨1, false, 0, [], [.nilFunc], none, 8, false, 7, true, 0⟩),
  (425, ⟨1, false, 0, [], [.nilFunc], none, 8, false, 7, true, 0⟩),
  (426, ⟨2, true, 0, [(0, 3), (1, 9)], [.int .i64 0, .string ⟨#[]⟩], none, 24, false, 1, true, 0⟩),
  (427, ⟨2, true, 0, [(0, 3), (1, 9)], [.int .i64 0, .string ⟨#[]⟩], none, 24, false, 1, true, 0⟩),
  (428, ⟨1, false, 0, [], [.nilFunc], none, 8, false, 7, true, 0⟩),
  (429, ⟨1, false, 0, [], [.nilFunc], none, 8, false, 7, true, 0⟩),
  (430, ⟨1, false, 0, [], [.nilFunc], none, 8, false, 7, true, 0⟩),
  (432, ⟨1, false, 0, [], [.nilFunc], none, 8, false, 7, true, 0⟩),
  (433, ⟨1, false, 0, [], [.nilFunc], none, 8, false, 7, true, 0⟩),
  (434, ⟨1, false, 0, [], [.nilFunc], none, 8, false, 7, true, 0⟩),
  (435, ⟨1, false, 0, [], [.nilFunc], none, 8, false, 7, true, 0⟩),
  (437, ⟨1, false, 0, [], [.nilFunc], none, 8, false, 7, true, 0⟩),
  (438, ⟨1, false, 0, [], [.nilFunc], none, 8, false, 7, true, 0⟩),
  (439, ⟨1, false, 0, [], [.nilFunc], none, 8, false, 7, true, 0⟩),
  (440, ⟨1, false, 0, [], [.nilFunc], none, 8, false, 7, true, 0⟩),
  (441, ⟨1, false, 0, [], [.nilFunc], none, 8, false, 7, true, 0⟩),
  (443, ⟨1, false, 0, [], [.nilFunc], none, 8, false, 7, true, 0⟩),
  (444, ⟨1, false, 0, [], [.nilFunc], none, 8, false, 7, true, 0⟩),
  (446, ⟨1, false, 0, [], [.nilFunc], none, 8, false, 7, true, 0⟩),
  (447, ⟨1, false, 0, [], [.nilFunc], none, 8, false, 7, true, 0⟩),
  (448, ⟨1, false, 0, [], [.nilFunc], none, 8, false, 7, true, 0⟩),
  (449, ⟨1, false, 0, [], [.nilFunc], none, 8, false, 7, true, 0⟩),
  (450, ⟨1, false, 0, [], [.pointer none], none, 8, false, 4, true, 0⟩),
  (451, ⟨1, false, 0, [], [.pointer none], none, 8, false, 4, true, 0⟩),
  (452, ⟨2, true, 0, [(0, 24), (1, 3)], [.slice none 0 0, .int .i64 0], none, 32, false, 1, true, 0⟩),
  (453, ⟨2, true, 0, [(0, 24), (1, 3)], [.slice none 0 0, .int .i64 0], none, 32, false, 1, true, 0⟩),
  (454, ⟨1, false, 0, [], [.nilFunc], none, 8, false, 7, true, 0⟩),
  (455, ⟨1, false, 0, [], [.nilFunc], none, 8, false, 7, true, 0⟩),
  (456, ⟨1, false, 0, [], [.nilFunc], none, 8, false, 7, true, 0⟩),
  (457, ⟨1, false, 0, [], [.nilFunc], none, 8, false, 7, true, 0⟩),
  (458, ⟨1, false, 0, [], [.nilFunc], none, 8, false, 7, true, 0⟩),
  (460, ⟨1, false, 0, [], [.nilFunc], none, 8, false, 7, true, 0⟩),
  (461, ⟨1, false, 0, [], [.nilFunc], none, 8, false, 7, true, 0⟩),
  (462, ⟨1, false, 0, [], [.nilFunc], none, 8, false, 7, true, 0⟩),
  (463, ⟨1, false, 0, [], [.nilFunc], none, 8, false, 7, true, 0⟩),
  (464, ⟨1, false, 0, [], [.nilFunc], none, 8, false, 7, true, 0⟩),
  (465, ⟨1, false, 0, [], [.nilFunc], none, 8, false, 7, true, 0⟩),
  (466, ⟨1, false, 0, [], [.nilFunc], none, 8, false, 7, true, 0⟩),
  (467, ⟨1, false, 0, [], [.nilFunc], none, 8, false, 7, true, 0⟩),
  (468, ⟨0, true, 0, [], [], none, 0, false, 1, true, 0⟩),
  (469, ⟨0, true, 0, [], [], none, 0, false, 1, true, 0⟩),
  (471, ⟨1, false, 0, [], [.nilFunc], none, 8, false, 7, true, 0⟩),
  (472, ⟨1, false, 475, [], [.slice none 0 0], none, 24, true, 2, true, 0⟩),
  (473, ⟨1, false, 0, [], [.nilFunc], none, 8, false, 7, true, 0⟩),
  (474, ⟨5, true, 0, [(0, 3), (1, 3), (2, 3), (3, 21), (4, 9)], [.int .i64 0, .int .i64 0, .int .i64 0, .int .i32 0, .string ⟨#[]⟩], none, 48, false, 1, true, 0⟩),
  (475, ⟨5, true, 0, [(0, 3), (1, 3), (2, 3), (3, 21), (4, 9)], [.int .i64 0, .int .i64 0, .int .i64 0, .int .i32 0, .string ⟨#[]⟩], none, 48, false, 1, true, 0⟩),
  (476, ⟨1, false, 0, [], [.nilFunc], none, 8, false, 7, true, 0⟩),
  (477, ⟨1, false, 0, [], [.nilFunc], none, 8, false, 7, true, 0⟩),
  (478, ⟨1, false, 0, [], [.nilFunc], none, 8, false, 7, true, 0⟩),
  (479, ⟨1, false, 0, [], [.nilFunc], none, 8, false, 7, true, 0⟩),
  (480, ⟨1, false, 0, [], [.pointer none], none, 8, false, 4, true, 0⟩),
  (481, ⟨1, false, 0, [], [.nilFunc], none, 8, false, 7, true, 0⟩),
  (482, ⟨1, false, 0, [], [.nilFunc], none, 8, false, 7, true, 0⟩),
  (483, ⟨1, false, 0, [], [.pointer none], none, 8, false, 4, true, 0⟩),
  (484, ⟨1, false, 0, [], [.nilFunc], none, 8, false, 7, true, 0⟩),
  (485, ⟨1, false, 0, [], [.nilFunc], none, 8, false, 7, true, 0⟩),
  (486, ⟨1, false, 0, [], [.nilFunc], none, 8, false, 7, true, 0⟩),
  (487, ⟨1, false, 0, [], [.nilFunc], none, 8, false, 7, true, 0⟩),
  (488, ⟨1, false, 0, [], [.nilFunc], none, 8, false, 7, true, 0⟩),
  (489, ⟨1, false, 0, [], [.nilFunc], none, 8, false, 7, true, 0⟩),
  (490, ⟨4, true, 0, [(0, 17), (1, 17), (2, 17), (3, 9)], [.pointer none, .pointer none, .pointer none, .string ⟨#[]⟩], none, 40, false, 1, true, 0⟩),
  (491, ⟨4, true, 0, [(0, 17), (1, 17), (2, 17), (3, 9)], [.pointer none, .pointer none, .pointer none, .string ⟨#[]⟩], none, 40, false, 1, true, 0⟩),
  (492, ⟨0, true, 16, [], [], none, 0, false, 100, true, 0⟩),
  (493, ⟨0, true, 0, [(0, 492)], [], none, 0, false, 1, true, 0⟩),
  (494, ⟨0, true, 0, [(0, 492)], [], none, 0, false, 1, true, 0⟩),
  (495, ⟨1, false, 0, [], [.int .u8 0], some .u8, 1, false, 3, true, 0⟩),
  (496, ⟨1, false, 0, [], [.int .u8 0], some .u8, 1, false, 3, true, 0⟩),
  (497, ⟨1, false, 0, [], [.nilFunc], none, 8, false, 7, true, 0⟩),
  (498, ⟨1, false, 0, [], [.int .i32 0], some .i32, 4, false, 3, true, 0⟩),
  (499, ⟨1, false, 0, [], [.int .i32 0], some .i32, 4, false, 3, true, 0⟩),
  (500, ⟨11, true, 0, [(0, 12), (1, 12), (2, 198), (3, 495), (4, 5), (5, 5), (6, 496), (7, 497), (8, 377), (9, 498), (10, 499)], [.int .u64 0, .int .u64 0, .int .u32 0, .int .u8 0, .int .u8 0, .int .u8 0, .int .u8 0, .nilFunc, .pointer none, .int .i32 0, .int .i32 0], none, 48, false, 1, true, 0⟩),
  (501, ⟨11, true, 0, [(0, 12), (1, 12), (2, 198), (3, 495), (4, 5), (5, 5), (6, 496), (7, 497), (8, 377), (9, 498), (10, 499)], [.int .u64 0, .int .u64 0, .int .u32 0, .int .u8 0, .int .u8 0, .int .u8 0, .int .u8 0, .nilFunc, .pointer none, .int .i32 0, .int .i32 0], none, 48, false, 1, true, 0⟩),
  (502, ⟨1, false, 0, [], [.nilFunc], none, 8, false, 7, true, 0⟩)]
def tys : Tys := fun _ => tysL
theorem tyOk : TyOk Tryz.prog tys := by
  show TyOkL Tryz.prog tysL
  unfold tysL
  repeat refine TyOk.cons (TiOk.of (by kernel_rfl) (by kernel_rfl) (by kernel_rfl) (by kernel_rfl)) ?_
  exact TyOk.nil
end Go.Proofs.YtcmjijpofkoogaaGreat
