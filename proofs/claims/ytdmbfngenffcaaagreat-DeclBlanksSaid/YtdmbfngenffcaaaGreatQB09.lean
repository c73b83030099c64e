/- Lemmas, conditions told -/
import Derived.Test.YtdmbfngenffcaaaGreatQB08
import Derived.Laws.Sem
import Derived.Test.YtdmbfngenffcaaaGreatProg
import Derived.Shelf.Abstract
set_option linter.unusedSimpArgs false
set_option linter.unusedVariables false
namespace Go.Proofs.YtdmbfngenffcaaaGreat
open Go.RowKit Go.Lib
theorem closed_start {md : Region.Mode} {ops : Array Oper} : Closed md ops (Array.replicate ops.size false) := fun j oj hj hl => by
  have : j < ops.size := (Array.getElem?_eq_some_iff.1 hj).1
  simp [this] at hl
section
variable {P : Program} {ty : Tys} {w0 : World} {g0 : Gh} {o0 : List Ob} {N : Nat} {Q : Ex → St → Prop}
theorem sim_later {s : St} {a : Act} {w w' : World} (hs : Sim w0 g0 o0 N s a w) (hb : LeB w w') : Sim w0 g0 o0 N s a w' := by
  obtain ⟨g, M, hS, h0⟩ := hs.rel
  have E := Ext.below M hb
  have h1 : Step w g s.ob w' g s.ob := ⟨hb.os, hb.tape, hb.output, hb.size, fun b h _ => hb.block b h, fun b id hG => .inl ⟨id, hG⟩, fun b o h => .inl h, E, Nat.le_refl _⟩
  exact ⟨hs.defers, hs.size, g, M.below hb, fun t => (hS t).ext E, h0.trans h1⟩
theorem aexec_sound (hT : TyOk P ty) (hm : P.follows .mixedOrders = true) {cs : Nat → List AV → List Ob → Option (AV × List Ob)} {ord : Nat → OT} :
    ∀ (c : Code) (K : Ex → St → Tree) (R : Exit → Act → World → Prop) (s : St) (a : Act) (w : World), dstOk N c = true → ordOk .any ty ord c = true →
      (∀ c a (d : Tmp) v w, R (.panic c) (a.put (some d) v) w → R (.panic c) a w) → (∀ e s a w, (∀ v, e = .pan v → s.tm = []) → Sim w0 g0 o0 N s a w → (K e s).ok P w0 g0 o0 N Q → R e.conv a w) →
      (∀ v s a w, s.tm = [] → Sim w0 g0 o0 N s a w → Q (.pan v) s → R (.panic [{ v := v, recovered := false }]) a w) →
      Sim w0 g0 o0 N s a w → (aexec std ty cs ord c K s).ok P w0 g0 o0 N Q → c.wp P R a w := by
  intro c
  induction c with
  | skip => intro K R s a w _ _ _ hK hP hs hok; exact wp_skip (hK .normal s a w (fun _ h => by cases h) hs hok)
  | region id ops draw =>
    intro K R s a w hd ho hQ hK hP hs hok
    cases draw with
    | false =>
      exact wp_region (aops_sound hT hd (fun s a w hs h => hK .normal s a w (fun _ h => by cases h) hs h) hP _ s a w hs hok)
    | true =>
      simp only [ordOk, if_true, Bool.and_eq_true] at ho
      obtain ⟨h1, h3⟩ := ho
      refine wp_region_any hm (wpAny_of_R (late := lateO ty ops) _ _ _ _ ?_)
      exact (aops_draw hT hd h1 hQ (fun s a w hs h => hK .normal s a w (fun _ h => by cases h) hs h) hP _ _ _ s a _ closed_start (sim_later hs (LeB.drew w)) hok).1 h3
  | seq x y ihx ihy =>
    intro K R s a w hd ho hQ hK hP hs hok
    simp only [dstOk, ordOk, Bool.and_eq_true] at hd ho
    refine wp_seq (ihx _ _ s a w hd.1 ho.1 (fun c a d v w h => hQ c a d v w h) (fun e s a w ht hs h => ?_) (fun v s a w ht hs h => hP v s a w ht hs h) hs hok)
    cases e with
    | normal => exact ihy K R s a w hd.2 ho.2 hQ hK hP hs h
    | exit i => exact hK (.exit i) s a w (fun _ h => by cases h) hs h
    | ret => exact hK .ret s a w (fun _ h => by cases h) hs h
    | pan v => exact hK (.pan v) s a w ht hs h
  | cond c x y ihx ihy =>
    intro K R s a w hd ho hQ hK hP hs hok
    simp only [dstOk, ordOk, Bool.and_eq_true] at hd ho
    unfold aexec at hok
    split at hok
    · rename_i t
      split at hok
      · rename_i hv
        exact wp_cond_true (sim_bool hs hv) (ihx K R s a w hd.1 ho.1 hQ hK hP hs hok)
      · rename_i hv
        exact wp_cond_false (sim_bool hs hv) (ihy K R s a w hd.2 ho.2 hQ hK hP hs hok)
      · rename_i b hv
        obtain ⟨h1, h2⟩ := hok
        have e : ∀ c : Bool, lk t (s.put (some t) (.kb c)).tm = .kb c := fun c => if_pos rfl
        cases b with
        | true =>
          have hs' := sim_known hs hv true rfl
          exact wp_cond_true (sim_bool hs' (e true)) (ihx K R _ a w hd.1 ho.1 hQ hK hP hs' (h1 rfl))
        | false =>
          have hs' := sim_known hs hv false rfl
          exact wp_cond_false (sim_bool hs' (e false)) (ihy K R _ a w hd.2 ho.2 hQ hK hP hs' (h2 rfl))
      · exact hok.elim
    · exact wp_cond_true rfl (ihx K R s a w hd.1 ho.1 hQ hK hP hs hok)
    · exact wp_cond_false rfl (ihy K R s a w hd.2 ho.2 hQ hK hP hs hok)
    · exact hok.elim
  | block id c ih =>
    intro K R s a w hd ho hQ hK hP hs hok
    simp only [dstOk, ordOk] at hd ho
    refine wp_block (ih _ _ s a w hd ho (fun c a d v w h => hQ c a d v w h) (fun e s a w ht hs h => ?_) (fun v s a w ht hs h => hP v s a w ht hs h) hs hok)
    cases e with
    | normal => exact hK .normal s a w (fun _ h => by cases h) hs h
    | ret => exact hK .ret s a w (fun _ h => by cases h) hs h
    | pan v => exact hK (.pan v) s a w ht hs h
    | exit i =>
      show Exit.inBlock id R (.exit i) a w
      simp only [Exit.inBlock]
      simp only at h
      by_cases hi : i = id
      · rw [if_pos hi] at h ⊢
        exact hK .normal s a w (fun _ h => by cases h) hs h
      · rw [if_neg hi] at h ⊢
        exact hK (.exit i) s a w (fun _ h => by cases h) hs h
  | loop c ih =>
    intro K R s a w hd ho hQ hK hP hs hok
    refine wp_mono (hok a w hs) (fun e a' w' h => ?_)
    obtain ⟨e', s', rfl, ht, hs', h'⟩ := h
    exact hK e' s' a' w' ht hs' h'
  | exit i => intro K R s a w _ _ _ hK hP hs hok; exact wp_exit (hK (.exit i) s a w (fun _ h => by cases h) hs hok)
  | ret => intro K R s a w _ _ _ hK hP hs hok; exact wp_ret (hK .ret s a w (fun _ h => by cases h) hs hok)
  | _ => intro K R s a w _ _ _ _ _ _ hok; exact hok.elim
end
end Go.Proofs.YtdmbfngenffcaaaGreat
namespace Go.Proofs.YtdmbfngenffcaaaGreat
open Go.RowKit Go.Lib
def ent : Nat → List AV → List (Nat × AV)
  | _, [] => []
  | k, x :: r => (k, x) :: ent (k + 1) r
theorem lk_ent (t : Nat) : ∀ (l : List AV) (k : Nat), lk t (ent k l) = if k ≤ t then l.getD (t - k) .dead else .dead
  | [], k => by simp [ent, lk]
  | x :: r, k => by
    simp only [ent, lk]
    by_cases h : t = k
    · subst h; simp
    · rw [if_neg h, lk_ent t r (k + 1)]
      by_cases h2 : k ≤ t
      · have e : t - k = (t - (k + 1)) + 1 := by omega
        rw [if_pos (by omega), if_pos h2, e, List.getD_cons_succ]
      · rw [if_neg (by omega), if_neg h2]
def resSem (tmps : Array Value) (rv : ResultVar) : Sem Value := match rv with
  | .tmp t => pure (tmps.getD t undef)
  | .cell a t => do loadVar t (← asAddr (tmps.getD a undef))
theorem results_eq (fn : Func) (tmps : Array Value) : results fn tmps = (do let vs ← fn.results.mapM (resSem tmps); pure (if h : vs.size = 1 then vs[0] else .tuple vs)) := by
  unfold results
  congr 1
section
variable {P : Program} {ty : Tys} {w0 w : World} {g0 g : Gh} {o0 : List Ob} {N : Nat} {s : St} {a : Act}
theorem res_one (hT : TyOk P ty) (M : Mem w g s.ob) (hS : Slots w g s a) {rv : ResultVar} {x : AV} (h : resOf ty s rv = some x) :
    ∃ v, Sem.run P (resSem a.tmps rv) w = .ok v w ∧ ARel w g s.ob v x := by
  cases rv with
  | tmp t =>
    refine ⟨a.tmps.getD t undef, rfl, ?_⟩
    have hr := hS t
    simp only [resOf] at h
    split at h
    · rename_i b hb
      obtain rfl : AV.val (.bool b) = x := by simpa using h
      rw [hb] at hr
      have e : a.tmps.getD t undef = .bool b := hr
      rw [e]
      exact PRel.to (.val _ rfl)
    · cases h
    · obtain rfl : lk t s.tm = x := by simpa using h
      exact hr
  | cell b T =>
    simp only [resOf] at h
    split at h
    · rename_i cs hcs
      by_cases hk : (tyLook T ty).ok = true ∧ (if (tyLook T ty).agg then (tyLook T ty).size else 1) ≤ cs.length
      · rw [if_pos hk] at h
        cases h
        obtain ⟨bl, of, hv, hc⟩ := cellsAt_rel M (hS b) hcs
        obtain ⟨v, h1, h2⟩ := load_cells (g := g) hT hk.1 hc hk.2
        refine ⟨v, ?_, h2⟩
        have h3 := h1 w (LeB.refl w)
        show (asAddr (a.tmps.getD b undef) >>= fun p => loadVar T p).run P w = _
        rw [hv]
        simpa [asAddr] using h3
      · rw [if_neg hk] at h; cases h
    · cases h
theorem res_list (hT : TyOk P ty) (M : Mem w g s.ob) (hS : Slots w g s a) : ∀ (rs : List ResultVar) (xs : List AV), allSome (rs.map (resOf ty s)) = some xs →
    ∃ vs, Sem.run P (rs.mapM (resSem a.tmps)) w = .ok vs w ∧ vs.length = xs.length ∧
      ∀ (j : Nat) v x, vs[j]? = some v → xs[j]? = some x → ARel w g s.ob v x
  | [], xs, h => by
    obtain rfl : [] = xs := by simpa [allSome] using h
    exact ⟨[], rfl, rfl, fun j v x h => by simp at h⟩
  | rv :: rs, xs, h => by
    cases h1 : resOf ty s rv with
    | none => simp [allSome, h1] at h
    | some x =>
      simp only [List.map_cons, h1, allSome, Option.map_eq_some_iff] at h
      obtain ⟨ys, h2, rfl⟩ := h
      obtain ⟨v, hv, hr⟩ := res_one hT M hS h1
      obtain ⟨vs, hvs, hl, hrs⟩ := res_list hT M hS rs ys h2
      refine ⟨v :: vs, ?_, by simp [hl], fun j y u hy hu => ?_⟩
      · simp only [List.mapM_cons, Sem.run_bind, hv, hvs, Result.andThen_ok, Sem.run_pure]
      · cases j with
        | zero =>
          obtain rfl : v = y := by simpa using hy
          obtain rfl : x = u := by simpa using hu
          exact hr
        | succ j => exact hrs j y u (by simpa using hy) (by simpa using hu)
theorem result_sound (hT : TyOk P ty) {keep : Bool} {fn : Func} (hs : Sim w0 g0 o0 N s a w) {res : AV} {ob' : List Ob} (h : resultA std ty keep fn.results.toList s = some (res, ob')) :
    ∃ v g', (results fn a.tmps).run P w = .ok v w ∧ Mem w g' ob' ∧ ARel w g' ob' v res ∧ Step w0 g0 o0 w g' ob' := by
  obtain ⟨g, M, hS, h0⟩ := hs.rel
  unfold resultA at h
  cases hx : allSome (fn.results.toList.map (resOf ty s)) with
  | none => rw [hx] at h; cases h
  | some xs =>
    rw [hx] at h
    obtain ⟨vs, hvs, hl, hrs⟩ := res_list hT M hS _ _ hx
    have hrun : (results fn a.tmps).run P w = .ok (if h : vs.toArray.size = 1 then vs.toArray[0] else .tuple vs.toArray) w := by
      rw [results_eq, Array.mapM_eq_mapM_toList, Sem.run_bind]
      have : (List.toArray <$> (fn.results.toList.mapM (resSem a.tmps))).run P w = .ok vs.toArray w := by
        rw [map_eq_pure_bind, Sem.run_bind, hvs]; rfl
      rw [this]; rfl
    have many : xs.length ≠ 1 → (eachM (frz std keep 9) s.ob xs).map (fun (ys, ob) => (AV.tup ys, ob)) = some (res, ob') →
        ∃ v g', (results fn a.tmps).run P w = .ok v w ∧ Mem w g' ob' ∧ ARel w g' ob' v res ∧ Step w0 g0 o0 w g' ob' := fun hne h => by
      simp only [Option.map_eq_some_iff] at h
      obtain ⟨⟨ys, ob1⟩, h1, h2⟩ := h
      cases h2
      have hL : ARelL w g s.ob vs xs := ⟨hl, fun j v x hv hx => (hrs j v x hv hx).to1 (each_live _ _ _ _ h1 _ (List.mem_of_getElem? hx))⟩
      obtain ⟨g', M', E', R', L'⟩ := frzL _ _ g s.ob ys ob1 M hL h1
      refine ⟨_, g', hrun, M', ?_, h0.trans (Step.ghost E' L')⟩
      have : ¬ vs.toArray.size = 1 := by simp; omega
      rw [dif_neg this]
      exact ⟨vs.toArray, rfl, by simpa using R'.1, fun j y u hy hu => R'.2 j y u (by simpa using hy) hu⟩
    cases xs with
    | nil => exact many (by simp) h
    | cons x r =>
      cases r with
      | cons x' r' => exact many (by simp) h
      | nil =>
        obtain ⟨v, rfl⟩ : ∃ v, vs = [v] := List.length_eq_one_iff.1 (by simpa using hl)
        obtain ⟨g', M', E', R', L'⟩ := frzTop M (hrs 0 v x rfl rfl) h
        exact ⟨v, g', hrun, M', R', h0.trans (Step.ghost E' L')⟩
end
def leC (x y : AV) : Prop := x = y ∨ (x = .val (.slice none 0 0) ∧ ∃ sz, y = .slc sz []) ∨ (y = .opt x ∧ isPtr x) ∨ x = .opt y
def leL : List AV → List AV → Prop
  | [], [] => True
  | x :: r, y :: r' => leC x y ∧ leL r r'
  | _, _ => False
def leA1 : AV → AV → Prop
  | .agg xs, .agg ys => leL xs ys
  | .agg _, _ => False
  | .tup _, _ => False
  | _, .agg _ => False
  | _, .tup _ => False
  | x, y => leC x y
def leT : List AV → List AV → Prop
  | [], [] => True
  | x :: r, y :: r' => leA1 x y ∧ leT r r'
  | _, _ => False
def leA (x y : AV) : Prop := match x with
  | .tup xs => (match y with
    | .tup ys => leT xs ys
    | _ => False)
  | x => leA1 x y
section
variable {w : World} {g : Gh} {ob : List Ob}
theorem leC_rel {v : Value} {x y : AV} (h : ARel0 w g ob v x) (hl : leC x y) : ARel0 w g ob v y := by
  rcases hl with rfl | ⟨rfl, sz, rfl⟩ | ⟨rfl, hp⟩ | rfl
  · exact h
  · cases (show v = _ from ARel.valEq (g := g) (w := w) (ob := ob) h)
    exact PRel.nil sz
  · have : PRel w g.A v x := by
      cases x with
      | val _ => exact h
      | ref _ => exact h
      | opt _ => exact h
      | _ => exact (show False from hp).elim
    exact PRel.opt _ _ this hp
  · exact (PRel.ofOpt (show PRel w g.A v (.opt y) from h)).1.to0
theorem leL_rel : ∀ {vs : List Value} {xs ys : List AV}, ARelC w g ob vs xs → leL xs ys → ARelC w g ob vs ys
  | vs, [], [], h, _ => h
  | _, [], _ :: _, _, hl => hl.elim
  | _, _ :: _, [], _, hl => hl.elim
  | [], x :: r, y :: r', h, _ => absurd h.1 (by simp)
  | v :: vs, x :: r, y :: r', h, hl => by
    have h1 := h.2 0 v x rfl rfl
    have h2 : ARelC w g ob vs r' := leL_rel (xs := r) ⟨by simpa using h.1, fun j a b ha hb => h.2 (j + 1) a b (by simpa using ha) (by simpa using hb)⟩ hl.2
    refine ⟨by simp [h2.1], fun j a b ha hb => ?_⟩
    cases j with
    | zero =>
      obtain rfl : v = a := by simpa using ha
      obtain rfl : y = b := by simpa using hb
      exact ⟨leC_rel h1.1 hl.1, h1.2⟩
    | succ j => exact h2.2 j a b (by simpa using ha) (by simpa using hb)
theorem ARel1.to0 {v : Value} {x : AV} (h : ARel1 w g ob v x) (hn : ∀ cs, x ≠ .agg cs) : ARel0 w g ob v x := by cases x <;> first | exact h | exact absurd rfl (hn _)
theorem leA1_rel {v : Value} {x y : AV} (h : ARel1 w g ob v x) (hl : leA1 x y) : ARel1 w g ob v y := by
  cases x with
  | agg xs =>
    cases y with
    | agg ys => obtain ⟨vs, rfl, h⟩ := h; exact ⟨vs, rfl, leL_rel h hl⟩
    | _ => exact (show False from hl).elim
  | tup _ => exact (show False from hl).elim
  | _ => cases y <;> first | exact (show False from hl).elim | exact (leC_rel (h.to0 (fun cs h => by cases h)) hl).to1
theorem leA_rel {v : Value} {x y : AV} (h : ARel w g ob v x) (hl : leA x y) : ARel w g ob v y := by
  cases x with
  | tup xs =>
    cases y with
    | tup ys =>
      obtain ⟨vs, rfl, h1, h2⟩ := h
      have key : ∀ (xs ys : List AV) (vs : List Value), leT xs ys → vs.length = xs.length → (∀ (j : Nat) y u, vs[j]? = some y → xs[j]? = some u → ARel1 w g ob y u) → vs.length = ys.length ∧ ∀ (j : Nat) y u, vs[j]? = some y → ys[j]? = some u → ARel1 w g ob y u := by
        intro xs
        induction xs with
        | nil =>
          intro ys vs hl hn hr
          cases ys with
          | nil => exact ⟨hn, hr⟩
          | cons _ _ => exact (show False from hl).elim
        | cons x r ih =>
          intro ys vs hl hn hr
          cases ys with
          | nil => exact (show False from hl).elim
          | cons y r' =>
            cases vs with
            | nil => simp at hn
            | cons v vs =>
              obtain ⟨h3, h4⟩ := ih r' vs hl.2 (by simpa using hn) (fun j a b ha hb => hr (j + 1) a b (by simpa using ha) (by simpa using hb))
              refine ⟨by simp [h3], fun j a b ha hb => ?_⟩
              cases j with
              | zero =>
                obtain rfl : v = a := by simpa using ha
                obtain rfl : y = b := by simpa using hb
                exact leA1_rel (hr 0 v x rfl rfl) hl.1
              | succ j => exact h4 j a b (by simpa using ha) (by simpa using hb)
      obtain ⟨h3, h4⟩ := key xs ys vs.toList hl (by simpa using h1) (fun j a b ha hb => h2 j a b (by simpa using ha) hb)
      exact ⟨vs, rfl, by simpa using h3, fun j a b ha hb => h4 j a b (by simpa using ha) hb⟩
    | _ => exact (show False from hl).elim
  | _ => exact (leA1_rel (h.to1' (fun xs h => by cases h)) (show leA1 _ y from hl)).to
end
def renTs (ob ob' : List Ob) (ρ : List (Option Nat)) : List AV → List AV → Option Eqs
  | [], [] => some []
  | x :: r, x' :: r' => both (ren1 ob ob' ρ x x') (renTs ob ob' ρ r r')
  | _, _ => none
def renR (ob ob' : List Ob) (ρ : List (Option Nat)) (x x' : AV) : Option Eqs := match x with
  | .tup xs => (match x' with
    | .tup ys => renTs ob ob' ρ xs ys
    | _ => none)
  | x => ren1 ob ob' ρ x x'
section
variable {w w0 : World} {g g0 : Gh} {ob ob' o0 : List Ob} {ρ : List (Option Nat)}
theorem ren1_notup {x x' : AV} {l : Eqs} (he : ren1 ob ob' ρ x x' = some l) : ∀ xs, x' ≠ .tup xs := by
  rintro xs rfl
  cases he
theorem renTs_rel (hF : Fits ob ob' ρ) (ho : onceR ρ = true) : ∀ (xs ys : List AV) (vs : List Value) (l : Eqs), renTs ob ob' ρ xs ys = some l → AllEq l → vs.length = xs.length → (∀ (j : Nat) y u, vs[j]? = some y → xs[j]? = some u → ARel1 w g ob y u) →
    vs.length = ys.length ∧ ∀ (j : Nat) y u, vs[j]? = some y → ys[j]? = some u → ARel1 w (g.ren ρ) ob' y u
  | [], [], vs, _, _, _, hn, _ => ⟨hn, fun j y u _ h => by simp at h⟩
  | [], _ :: _, _, _, h, _, _, _ => by cases h
  | _ :: _, [], _, _, h, _, _, _ => by cases h
  | x :: r, y :: r', vs, l, h, hl, hn, hr => by
    cases vs with
    | nil => simp at hn
    | cons v vs =>
      obtain ⟨⟨l1, h1, hl1⟩, l2, h2, hl2⟩ := both_some h hl
      obtain ⟨h3, h4⟩ := renTs_rel hF ho r r' vs l2 h2 hl2 (by simpa using hn) (fun j a b ha hb => hr (j + 1) a b (by simpa using ha) (by simpa using hb))
      refine ⟨by simp [h3], fun j a b ha hb => ?_⟩
      cases j with
      | zero =>
        obtain rfl : v = a := by simpa using ha
        obtain rfl : y = b := by simpa using hb
        exact (ren1_rel hF ho (hr 0 v x rfl rfl).to h1 hl1).to1' (ren1_notup h1)
      | succ j => exact h4 j a b (by simpa using ha) (by simpa using hb)
theorem renR_rel (hF : Fits ob ob' ρ) (ho : onceR ρ = true) {v : Value} {x x' : AV} {l : Eqs} (h : ARel w g ob v x) (he : renR ob ob' ρ x x' = some l) (hl : AllEq l) : ARel w (g.ren ρ) ob' v x' := by
  cases x with
  | tup xs =>
    cases x' with
    | tup ys =>
      obtain ⟨vs, rfl, h1, h2⟩ := h
      obtain ⟨h3, h4⟩ := renTs_rel hF ho xs ys vs.toList l he hl (by simpa using h1) (fun j a b ha hb => h2 j a b (by simpa using ha) hb)
      exact ⟨vs, rfl, by simpa using h3, fun j a b ha hb => h4 j a b (by simpa using ha) hb⟩
    | _ => cases he
  | _ => exact ren1_rel hF ho h he hl
theorem step_ren (hF : Fits ob ob' ρ) (ho : onceR ρ = true) (hh : headR o0 ob ob' ρ = true) (hn : o0.length ≤ ρ.length) (h0 : Step w0 g0 o0 w g ob) : Step w0 g0 o0 w (g.ren ρ) ob' := by
  have head : ∀ j, j < o0.length → ρ[j]? = some (some j) := fun j hj => by
    have := List.all_eq_true.1 hh j (List.mem_range.2 hj)
    simp only [Bool.and_eq_true, beq_iff_eq] at this
    exact this.1
  refine ⟨h0.os, h0.tape, h0.output, h0.size, h0.keep, fun b id hG => ?_, h0.imm, ⟨h0.ext.A, fun id hid => ?_, fun id hb => ?_, fun id hb => ?_, fun id et sz fz e xs hr => ?_, fun b id hG hs => ?_⟩, ?_⟩
  · obtain ⟨i, _, h3⟩ := ren_Gof hG
    exact h0.own b i h3
  · rw [ren_loc (head id hid)]; exact h0.ext.loc id hid
  · exact hF.isB (head id (isBox_lt hb)) (h0.ext.isb id hb)
  · exact hF.isI (head id (isIt_lt hb)) (h0.ext.isi id hb)
  · have hid := lt_of_some hr
    obtain ⟨fz1, e1, xs1, h3, h4, h5⟩ := h0.ext.row id et sz fz e xs hr
    obtain ⟨fz2, e2, h6, _⟩ := hF.row (head id hid) h3
    have he : e1 = e2 ∨ e < e2 := by
      have := List.all_eq_true.1 hh id (List.mem_range.2 hid)
      simp only [Bool.and_eq_true, hr, h3, h6, beq_iff_eq, Bool.or_eq_true, decide_eq_true_eq] at this
      exact this.2
    rcases he with he | he
    rotate_left
    · exact ⟨fz2, e2, xs1, h6, by omega, fun hee => by omega⟩
    subst he
    exact ⟨fz2, e1, xs1, h6, h4, fun hee => (h5 hee).turn (fun b hb => ⟨hb, rfl⟩) (fun b _ hb => ren_G ho (head id hid) hb) rfl⟩
  · obtain ⟨et, sz, fz, fz', e, xs, xs', h3, h4⟩ := hs
    have hid := lt_of_some h3
    obtain ⟨fz1, e1, xs1, h5, h6, h7⟩ := h0.ext.row id et sz fz e xs h3
    obtain ⟨fz2, e2, h8, _⟩ := hF.row (head id hid) h5
    rw [h8] at h4
    obtain ⟨rfl, rfl, rfl⟩ : fz2 = fz' ∧ e2 = e ∧ xs1 = xs' := by simpa using h4
    have he : e1 = e2 := by
      have := List.all_eq_true.1 hh id (List.mem_range.2 hid)
      simp only [Bool.and_eq_true, h3, h5, h8, beq_iff_eq, Bool.or_eq_true, decide_eq_true_eq] at this
      omega
    subst he
    obtain ⟨h9, h10⟩ := h0.ext.sub b id hG ⟨_, _, _, _, _, _, _, h3, h5⟩
    have h11 := ren_sub (g := g) ho (head id hid) ((h7 rfl).G hG)
    exact ⟨h11.trans h9, h10⟩
  · rw [← hF.1]; exact hn
end
def FinOk (o0 : List Ob) (res : AV) (ob' : List Ob) (_ : Ex) (s : St) : Prop := match s.tm with
  | [(_, r)] => ∃ ρ r' l, onceR ρ = true ∧ headR o0 s.ob ob' ρ = true ∧ o0.length ≤ ρ.length ∧ both (renR s.ob ob' ρ r r') (renOs s.ob ob' ρ ρ ob') = some l ∧ AllEq l ∧ leA r' res
  | _ => False
def purR : AV → Bool
  | .tup xs => xs.all AV.pur
  | x => x.pur
theorem ren0_pure {ob : List Ob} {ρ : List (Option Nat)} {x : AV} (h : x.pur0 = true) : ∃ l, ren0 ob [] ρ x x = some l ∧ AllEq l := by
  cases x with
  | val v => cases v <;> exact ⟨_, rfl, rfl, trivial⟩
  | slc _ _ => exact ⟨_, rfl, rfl, trivial⟩
  | ref _ => exact ⟨_, rfl, rfl, trivial⟩
  | opt _ => exact ⟨_, rfl, rfl, trivial⟩
  | _ => cases h
theorem ren1_pure {ob : List Ob} {ρ : List (Option Nat)} {x : AV} (h : x.pur = true) : ∃ l, ren1 ob [] ρ x x = some l ∧ AllEq l := by
  cases x with
  | agg cs =>
    have key : ∀ cs : List AV, cs.all AV.pur0 = true → ∃ l, renL ob [] ρ cs cs = some l ∧ AllEq l := by
      intro cs
      induction cs with
      | nil => intro _; exact ⟨[], rfl, trivial⟩
      | cons x r ih =>
        intro h
        simp only [List.all_cons, Bool.and_eq_true] at h
        obtain ⟨l1, h1, h2⟩ := ren0_pure (ob := ob) (ρ := ρ) h.1
        obtain ⟨l2, h3, h4⟩ := ih h.2
        exact ⟨l1 ++ l2, by simp only [renL, h1, h3, both], allEq_append.2 ⟨h2, h4⟩⟩
    exact key cs h
  | val v => exact ren0_pure (ob := ob) (ρ := ρ) (x := .val v) h
  | slc a b => exact ren0_pure (ob := ob) (ρ := ρ) (x := .slc a b) h
  | ref a => exact ren0_pure (ob := ob) (ρ := ρ) (x := .ref a) h
  | opt a => exact ren0_pure (ob := ob) (ρ := ρ) (x := .opt a) h
  | _ => cases h
theorem FinOk.pure {res r : AV} {k : Nat} {ob : List Ob} {e : Ex} (hp : purR r = true) (hl : leA r res) : FinOk [] res [] e ⟨[(k, r)], ob⟩ := by
  have hr : ∃ l, renR ob [] [] r r = some l ∧ AllEq l := by
    cases r with
    | tup xs =>
      have key : ∀ xs : List AV, xs.all AV.pur = true → ∃ l, renTs ob [] [] xs xs = some l ∧ AllEq l := by
        intro xs
        induction xs with
        | nil => intro _; exact ⟨[], rfl, trivial⟩
        | cons x r ih =>
          intro h
          simp only [List.all_cons, Bool.and_eq_true] at h
          obtain ⟨l1, h1, h2⟩ := ren1_pure (ob := ob) (ρ := []) h.1
          obtain ⟨l2, h3, h4⟩ := ih h.2
          exact ⟨l1 ++ l2, by simp only [renTs, h1, h3, both], allEq_append.2 ⟨h2, h4⟩⟩
      exact key xs hp
    | val a => exact ren1_pure (ob := ob) (ρ := []) (x := .val a) hp
    | slc a b => exact ren1_pure (ob := ob) (ρ := []) (x := .slc a b) hp
    | agg a => exact ren1_pure (ob := ob) (ρ := []) (x := .agg a) hp
    | ref a => exact ren1_pure (ob := ob) (ρ := []) (x := .ref a) hp
    | opt a => exact ren1_pure (ob := ob) (ρ := []) (x := .opt a) hp
    | _ => cases hp
  obtain ⟨l, h1, h2⟩ := hr
  exact ⟨[], r, l, rfl, rfl, Nat.le_refl _, by simp only [h1, renOs, both, List.append_nil], h2, hl⟩
theorem bcall_any {P : Program} {ty : Tys} (keep : Bool) (hT : TyOk P ty) (hm : P.follows .mixedOrders = true) {cs : Nat → List AV → List Ob → Option (AV × List Ob)} {ord : Nat → OT}
    {f : Nat} {fn : Func} {c : Code} {args : List AV} {ob : List Ob} {res : AV} {ob' : List Ob} (hf : P.funcs[f]? = some fn) (hb : fn.body = some c) (he : ∀ vs w, (callFunc f vs).run P w = .ok (.enter f vs) w)
    (hn : args.length ≤ fn.ntmps) (hd : dstOk fn.ntmps c = true) (ho : ordOk .any ty ord c = true)
    (h : ∀ w0 g0, (aexec std ty cs ord c (endK std ty keep fn.results.toList) ⟨ent 0 args, ob⟩).ok P w0 g0 ob fn.ntmps (FinOk ob res ob')) : BCall P f args ob res ob' := by
  refine ⟨he, fun w g vs M hL => calls_of_wp hf hb ?_⟩
  have hlen : vs.length = args.length := hL.1
  refine aexec_sound (w0 := w) (g0 := g) (o0 := ob) (N := fn.ntmps) (Q := FinOk ob res ob') hT hm c _ _ ⟨ent 0 args, ob⟩ _ w hd ho (fun c a d v w h => h) (fun e s a w' ht hs hq => ?_) (fun v s a w' ht _ hq => by unfold FinOk at hq; rw [ht] at hq; exact hq.elim) ⟨rfl, ?_, g, M, fun t => ?_, Step.refl⟩ (h w g)
  · have fin : ∀ {T : Tree}, T = (match resultA std ty keep fn.results.toList s with | some (r, ob) => .leaf .ret ⟨[(0, r)], ob⟩ | none => .stuck 71) → T.ok P w g ob fn.ntmps (FinOk ob res ob') →
        a.defers = [] ∧ ∃ v, (results fn a.tmps).run P w' = .ok v w' ∧ ∃ v' g', Ending.returned v = .returned v' ∧ Mem w' g' ob' ∧ ARel w' g' ob' v' res ∧ Step w g ob w' g' ob' := fun hT' hq => by
      cases hr : resultA std ty keep fn.results.toList s with
      | none => rw [hr] at hT'; subst hT'; exact (show False from hq).elim
      | some q =>
        obtain ⟨r, ob1⟩ := q
        rw [hr] at hT'
        subst hT'
        obtain ⟨ρ, r', l, h1, h2, h3, h4, h5, h6⟩ := (show FinOk ob res ob' .ret ⟨[(0, r)], ob1⟩ from hq)
        obtain ⟨⟨l1, e1, a1⟩, l2, e2, a2⟩ := both_some h4 h5
        have hF : Fits ob1 ob' ρ := renOs_get _ _ _ e2 a2
        obtain ⟨v, g', k1, k2, k3, k4⟩ := result_sound hT hs hr
        exact ⟨hs.defers, v, k1, v, g'.ren ρ, rfl, k2.ren hF h1, leA_rel (renR_rel hF h1 k3 e1 a1) h6, step_ren hF h1 h2 h3 k4⟩
    cases e with
    | normal => exact fin rfl hq
    | ret => exact fin rfl hq
    | exit i => exact (show False from hq).elim
    | pan v => exact (by have hq : FinOk ob res ob' (.pan v) s := hq; unfold FinOk at hq; rw [ht v rfl] at hq; exact hq.elim)
  · simp; omega
  · show ARel w g ob _ (lk t (ent 0 args))
    rw [lk_ent]
    simp only [Nat.zero_le, if_true, Nat.sub_zero]
    by_cases ht : t < args.length
    · rw [List.getD_eq_getElem?_getD, List.getElem?_eq_getElem ht, Option.getD_some]
      have e : (vs.toArray ++ Array.replicate (fn.ntmps - vs.toArray.size) undef).getD t undef = vs[t]'(by omega) := by
        rw [Array.getD_eq_getD_getElem?, Array.getElem?_append_left (by simp; omega)]
        simp [show t < vs.length by omega]
      rw [e]
      exact (hL.2 t _ _ (List.getElem?_eq_getElem (by omega)) (List.getElem?_eq_getElem ht)).to
    · rw [List.getD_eq_getElem?_getD, List.getElem?_eq_none (by omega)]
      trivial
theorem bpan_of {P : Program} {ty : Tys} (hT : TyOk P ty) (hm : P.follows .mixedOrders = true) {cs : Nat → List AV → List Ob → Option (AV × List Ob)} {ord : Nat → OT}
    {f : Nat} {fn : Func} {c : Code} {args : List AV} {ob : List Ob} {x : Value} (hf : P.funcs[f]? = some fn) (hb : fn.body = some c) (he : ∀ vs w, (callFunc f vs).run P w = .ok (.enter f vs) w)
    (hn : args.length ≤ fn.ntmps) (hd : dstOk fn.ntmps c = true) (ho : ordOk .any ty ord c = true)
    (h : ∀ w0 g0, (aexec std ty cs ord c (endK std ty false fn.results.toList) ⟨ent 0 args, ob⟩).ok P w0 g0 ob fn.ntmps (fun e _ => e = .pan x)) : BPan P f args ob x := by
  refine ⟨he, fun w g vs M hL => calls_of_wp hf hb ?_⟩
  have hlen : vs.length = args.length := hL.1
  refine aexec_sound (w0 := w) (g0 := g) (o0 := ob) (N := fn.ntmps) (Q := fun e _ => e = .pan x) hT hm c _ _ ⟨ent 0 args, ob⟩ _ w hd ho (fun c a d v w h => h) (fun e s a w' ht hs hq => ?_) (fun v s a w' ht hs hq => ?_) ⟨rfl, ?_, g, M, fun t => ?_, Step.refl⟩ (h w g)
  · have no : ∀ {T : Tree}, T = (match resultA std ty false fn.results.toList s with | some (r, ob) => .leaf .ret ⟨[(0, r)], ob⟩ | none => .stuck 71) → T.ok P w g ob fn.ntmps (fun e _ => e = .pan x) → False := fun hT' hq => by
      cases hr : resultA std ty false fn.results.toList s with
      | none => rw [hr] at hT'; subst hT'; exact hq
      | some q => rw [hr] at hT'; subst hT'; cases (show Ex.ret = .pan x from hq)
    cases e with
    | normal => exact (no rfl hq).elim
    | ret => exact (no rfl hq).elim
    | exit i => exact (show False from hq).elim
    | pan v =>
      obtain rfl : v = x := by have h : Ex.pan v = .pan x := hq; cases h; rfl
      obtain ⟨g', M', _, h0⟩ := hs.rel
      exact ⟨hs.defers, g', s.ob, rfl, M', h0⟩
  · obtain rfl : v = x := by cases hq; rfl
    obtain ⟨g', M', _, h0⟩ := hs.rel
    exact ⟨hs.defers, g', s.ob, rfl, M', h0⟩
  · simp; omega
  · show ARel w g ob _ (lk t (ent 0 args))
    rw [lk_ent]
    simp only [Nat.zero_le, if_true, Nat.sub_zero]
    by_cases ht : t < args.length
    · rw [List.getD_eq_getElem?_getD, List.getElem?_eq_getElem ht, Option.getD_some]
      have e : (vs.toArray ++ Array.replicate (fn.ntmps - vs.toArray.size) undef).getD t undef = vs[t]'(by omega) := by
        rw [Array.getD_eq_getD_getElem?, Array.getElem?_append_left (by simp; omega)]
        simp [show t < vs.length by omega]
      rw [e]
      exact (hL.2 t _ _ (List.getElem?_eq_getElem (by omega)) (List.getElem?_eq_getElem ht)).to
    · rw [List.getD_eq_getElem?_getD, List.getElem?_eq_none (by omega)]
      trivial
end Go.Proofs.YtdmbfngenffcaaaGreat
namespace Go.Proofs.YtdmbfngenffcaaaGreat
open Go.RowKit Go.Lib
def tiB (P : Program) (x : TI) : Bool := x.zero.length == x.size && (x.agg || x.size == 1) && decide (x.bytes ≤ 140000) && x.flds.all (fun f => (P.info? f.2).isSome) && x.zero.all (·.oneCell') && x.ok
theorem TiOk.of {P : Program} {t : Nat} {x : TI} (h1 : (P.info? t).map (fun i => (i.size, i.bytes, i.zero.map (·.cells.toList))) = some (x.size, x.bytes, some x.zero))
    (h2 : (P.underlying t).map shapeOf = some (x.agg, x.elem, x.flds, x.kind, x.sl, x.kd)) (hb : tiB P x = true) : TiOk P t x := by
  simp only [tiB, Bool.and_eq_true, Bool.or_eq_true, beq_iff_eq, decide_eq_true_eq] at hb
  obtain ⟨⟨⟨⟨⟨b1, b2⟩, b4⟩, b5⟩, b6⟩, b7⟩ := hb
  exact ⟨h1, h2, b1, fun h => b2.resolve_left (by rw [h]; simp), b4, b5, b6, b7⟩
theorem TyOk.nil {P : Program} : TyOkL P [] := fun _ _ h => by cases h
theorem TyOk.cons {P : Program} {t : Nat} {x : TI} {r : List (Nat × TI)} (h : TiOk P t x) (hr : TyOkL P r) : TyOkL P ((t, x) :: r) := fun u y hu => by
  rcases List.mem_cons.1 hu with h1 | h1
  · cases h1; exact h
  · exact hr u y h1
end Go.Proofs.YtdmbfngenffcaaaGreat
namespace Go.Proofs.YtdmbfngenffcaaaGreat
def tysL : List (Nat × TI) := [(1, ⟨1, false, 0, [], [.nilFunc], none, 8, false, 7, true⟩),
  (2, ⟨1, false, 0, [], [.int .i64 0], some .i64, 8, false, 3, true⟩),
  (3, ⟨1, false, 0, [], [.int .i64 0], some .i64, 8, false, 3, true⟩),
  (4, ⟨1, false, 0, [], [.bool false], none, 1, false, 5, true⟩),
  (5, ⟨1, false, 0, [], [.int .u8 0], some .u8, 1, false, 3, true⟩),
  (6, ⟨1, false, 0, [], [.int .u8 0], some .u8, 1, false, 3, true⟩),
  (7, ⟨4, true, 0, [(0, 2), (1, 3), (2, 4), (3, 6)], [.int .i64 0, .int .i64 0, .bool false, .int .u8 0], none, 24, false, 1, true⟩),
  (8, ⟨4, true, 0, [(0, 2), (1, 3), (2, 4), (3, 6)], [.int .i64 0, .int .i64 0, .bool false, .int .u8 0], none, 24, false, 1, true⟩),
  (9, ⟨1, false, 0, [], [.string ⟨#[]⟩], none, 16, false, 6, true⟩),
  (10, ⟨1, false, 0, [], [.string ⟨#[]⟩], none, 16, false, 6, true⟩),
  (11, ⟨1, false, 0, [], [.string ⟨#[]⟩], none, 16, false, 6, true⟩),
  (12, ⟨1, false, 0, [], [.int .u64 0], some .u64, 8, false, 3, true⟩),
  (13, ⟨2, true, 0, [(0, 9), (1, 12)], [.string ⟨#[]⟩, .int .u64 0], none, 24, false, 1, true⟩),
  (14, ⟨2, true, 0, [(0, 9), (1, 12)], [.string ⟨#[]⟩, .int .u64 0], none, 24, false, 1, true⟩),
  (15, ⟨1, false, 0, [], [.pointer none], none, 8, false, 4, true⟩),
  (16, ⟨1, false, 0, [], [.pointer none], none, 8, false, 4, true⟩),
  (17, ⟨1, false, 0, [], [.pointer none], none, 8, false, 4, true⟩),
  (18, ⟨1, true, 0, [(0, 17)], [.pointer none], none, 8, false, 1, true⟩),
  (19, ⟨1, true, 0, [(0, 17)], [.pointer none], none, 8, false, 1, true⟩),
  (21, ⟨1, false, 0, [], [.int .i32 0], some .i32, 4, false, 3, true⟩),
  (22, ⟨1, false, 21, [], [.slice none 0 0], none, 24, true, 2, true⟩),
  (23, ⟨1, false, 5, [], [.slice none 0 0], none, 24, true, 2, true⟩),
  (24, ⟨1, false, 0, [], [.nilFunc], none, 8, false, 7, true⟩),
  (25, ⟨1, false, 0, [], [.nilFunc], none, 8, false, 7, true⟩),
  (26, ⟨1, false, 71, [], [.slice none 0 0], none, 24, true, 2, true⟩),
  (27, ⟨9, true, 0, [(0, 3), (1, 9), (2, 22), (3, 4), (4, 9), (5, 9), (6, 9), (7, 9), (8, 26)], [.int .i64 0, .string ⟨#[]⟩, .slice none 0 0, .bool false, .string ⟨#[]⟩, .string ⟨#[]⟩, .string ⟨#[]⟩, .string ⟨#[]⟩, .slice none 0 0], none, 144, false, 1, true⟩),
  (28, ⟨9, true, 0, [(0, 3), (1, 9), (2, 22), (3, 4), (4, 9), (5, 9), (6, 9), (7, 9), (8, 26)], [.int .i64 0, .string ⟨#[]⟩, .slice none 0 0, .bool false, .string ⟨#[]⟩, .string ⟨#[]⟩, .string ⟨#[]⟩, .string ⟨#[]⟩, .slice none 0 0], none, 144, false, 1, true⟩),
  (30, ⟨1, false, 0, [], [.nilFunc], none, 8, false, 7, true⟩),
  (31, ⟨1, false, 0, [], [.nilFunc], none, 8, false, 7, true⟩),
  (32, ⟨1, false, 0, [], [.nilFunc], none, 8, false, 7, true⟩),
  (33, ⟨1, false, 0, [], [.nilFunc], none, 8, false, 7, true⟩),
  (34, ⟨1, false, 0, [], [.nilFunc], none, 8, false, 7, true⟩),
  (35, ⟨1, false, 0, [], [.pointer none], none, 8, false, 4, true⟩),
  (36, ⟨3, true, 0, [(0, 22), (1, 3), (2, 4)], [.slice none 0 0, .int .i64 0, .bool false], none, 40, false, 1, true⟩),
  (37, ⟨3, true, 0, [(0, 22), (1, 3), (2, 4)], [.slice none 0 0, .int .i64 0, .bool false], none, 40, false, 1, true⟩),
  (38, ⟨1, false, 0, [], [.nilFunc], none, 8, false, 7, true⟩),
  (39, ⟨1, false, 0, [], [.pointer none], none, 8, false, 4, true⟩),
  (40, ⟨1, false, 0, [], [.pointer none], none, 8, false, 4, true⟩),
  (41, ⟨2, true, 0, [(0, 22), (1, 3)], [.slice none 0 0, .int .i64 0], none, 32, false, 1, true⟩),
  (42, ⟨2, true, 0, [(0, 22), (1, 3)], [.slice none 0 0, .int .i64 0], none, 32, false, 1, true⟩),
  (43, ⟨1, false, 0, [], [.nilFunc], none, 8, false, 7, true⟩),
  (44, ⟨1, false, 0, [], [.nilFunc], none, 8, false, 7, true⟩),
  (45, ⟨1, false, 0, [], [.nilFunc], none, 8, false, 7, true⟩),
  (46, ⟨1, false, 0, [], [.nilFunc], none, 8, false, 7, true⟩),
  (47, ⟨1, false, 0, [], [.nilFunc], none, 8, false, 7, true⟩),
  (48, ⟨1, false, 0, [], [.nilFunc], none, 8, false, 7, true⟩),
  (49, ⟨1, false, 0, [], [.nilFunc], none, 8, false, 7, true⟩),
  (50, ⟨0, true, 0, [], [], none, 0, false, 1, true⟩),
  (51, ⟨0, true, 0, [], [], none, 0, false, 1, true⟩),
  (53, ⟨1, false, 0, [], [.nilFunc], none, 8, false, 7, true⟩),
  (54, ⟨1, false, 0, [], [.nilFunc], none, 8, false, 7, true⟩),
  (55, ⟨1, false, 0, [], [.nilFunc], none, 8, false, 7, true⟩),
  (56, ⟨1, false, 0, [], [.nilFunc], none, 8, false, 7, true⟩),
  (57, ⟨1, false, 0, [], [.nilFunc], none, 8, false, 7, true⟩),
  (58, ⟨1, false, 0, [], [.nilFunc], none, 8, false, 7, true⟩),
  (59, ⟨1, false, 0, [], [.nilFunc], none, 8, false, 7, true⟩),
  (60, ⟨1, false, 0, [], [.nilFunc], none, 8, false, 7, true⟩),
  (61, ⟨1, false, 0, [], [.nilFunc], none, 8, false, 7, true⟩),
  (62, ⟨2, true, 0, [(0, 21), (1, 21)], [.int .i32 0, .int .i32 0], none, 8, false, 1, true⟩),
  (63, ⟨2, true, 0, [(0, 21), (1, 21)], [.int .i32 0, .int .i32 0], none, 8, false, 1, true⟩),
  (64, ⟨1, false, 63, [], [.slice none 0 0], none, 24, true, 2, true⟩),
  (65, ⟨1, false, 0, [], [.nilFunc], none, 8, false, 7, true⟩),
  (66, ⟨1, false, 0, [], [.pointer none], none, 8, false, 4, true⟩),
  (68, ⟨1, false, 0, [], [.nilFunc], none, 8, false, 7, true⟩),
  (69, ⟨1, false, 9, [], [.slice none 0 0], none, 24, true, 2, true⟩),
  (70, ⟨5, true, 0, [(0, 9), (1, 9), (2, 69), (3, 3), (4, 22)], [.string ⟨#[]⟩, .string ⟨#[]⟩, .slice none 0 0, .int .i64 0, .slice none 0 0], none, 88, false, 1, true⟩),
  (71, ⟨5, true, 0, [(0, 9), (1, 9), (2, 69), (3, 3), (4, 22)], [.string ⟨#[]⟩, .string ⟨#[]⟩, .slice none 0 0, .int .i64 0, .slice none 0 0], none, 88, false, 1, true⟩),
  (72, ⟨1, false, 0, [], [.nilFunc], none, 8, false, 7, true⟩),
  (73, ⟨1, false, 0, [], [.pointer none], none, 8, false, 4, true⟩),
  (74, ⟨1, false, 0, [], [.nilFunc], none, 8, false, 7, true⟩),
  (75, ⟨1, false, 0, [], [.nilFunc], none, 8, false, 7, true⟩),
  (76, ⟨1, false, 0, [], [.nilFunc], none, 8, false, 7, true⟩),
  (77, ⟨1, false, 0, [], [.nilFunc], none, 8, false, 7, true⟩),
  (78, ⟨1, false, 0, [], [.nilFunc], none, 8, false, 7, true⟩),
  (79, ⟨1, false, 82, [], [.slice none 0 0], none, 24, true, 2, true⟩),
  (80, ⟨1, false, 0, [], [.nilFunc], none, 8, false, 7, true⟩),
  (81, ⟨3, true, 0, [(0, 21), (1, 3), (2, 3)], [.int .i32 0, .int .i64 0, .int .i64 0], none, 24, false, 1, true⟩),
  (82, ⟨3, true, 0, [(0, 21), (1, 3), (2, 3)], [.int .i32 0, .int .i64 0, .int .i64 0], none, 24, false, 1, true⟩),
  (83, ⟨1, false, 0, [], [.nilFunc], none, 8, false, 7, true⟩),
  (84, ⟨1, false, 0, [], [.nilFunc], none, 8, false, 7, true⟩),
  (85, ⟨1, false, 88, [], [.slice none 0 0], none, 24, true, 2, true⟩),
  (86, ⟨1, false, 0, [], [.nilFunc], none, 8, false, 7, true⟩),
  (87, ⟨5, true, 0, [(0, 3), (1, 3), (2, 3), (3, 21), (4, 9)], [.int .i64 0, .int .i64 0, .int .i64 0, .int .i32 0, .string ⟨#[]⟩], none, 48, false, 1, true⟩),
  (88, ⟨5, true, 0, [(0, 3), (1, 3), (2, 3), (3, 21), (4, 9)], [.int .i64 0, .int .i64 0, .int .i64 0, .int .i32 0, .string ⟨#[]⟩], none, 48, false, 1, true⟩),
  (89, ⟨1, false, 0, [], [.nilFunc], none, 8, false, 7, true⟩),
  (90, ⟨1, false, 93, [], [.slice none 0 0], none, 24, true, 2, true⟩),
  (91, ⟨1, false, 0, [], [.nilFunc], none, 8, false, 7, true⟩),
  (92, ⟨3, true, 0, [(0, 3), (1, 3), (2, 3)], [.int .i64 0, .int .i64 0, .int .i64 0], none, 24, false, 1, true⟩),
  (93, ⟨3, true, 0, [(0, 3), (1, 3), (2, 3)], [.int .i64 0, .int .i64 0, .int .i64 0], none, 24, false, 1, true⟩),
  (94, ⟨1, false, 0, [], [.nilFunc], none, 8, false, 7, true⟩),
  (95, ⟨1, false, 0, [], [.nilFunc], none, 8, false, 7, true⟩),
  (96, ⟨1, false, 0, [], [.nilFunc], none, 8, false, 7, true⟩),
  (97, ⟨1, false, 0, [], [.nilFunc], none, 8, false, 7, true⟩),
  (99, ⟨1, false, 0, [], [.nilFunc], none, 8, false, 7, true⟩),
  (100, ⟨1, false, 0, [], [.nilFunc], none, 8, false, 7, true⟩),
  (101, ⟨1, false, 0, [], [.nilFunc], none, 8, false, 7, true⟩),
  (102, ⟨1, false, 0, [], [.nilFunc], none, 8, false, 7, true⟩),
  (103, ⟨1, false, 0, [], [.nilFunc], none, 8, false, 7, true⟩),
  (104, ⟨1, false, 22, [], [.slice none 0 0], none, 24, true, 2, true⟩),
  (105, ⟨1, false, 0, [], [.nilFunc], none, 8, false, 7, true⟩),
  (106, ⟨1, false, 0, [], [.nilFunc], none, 8, false, 7, true⟩),
  (108, ⟨1, false, 0, [], [.nilFunc], none, 8, false, 7, true⟩),
  (109, ⟨1, false, 0, [], [.nilFunc], none, 8, false, 7, true⟩),
  (110, ⟨1, false, 3, [], [.slice none 0 0], none, 24, true, 2, true⟩),
  (111, ⟨1, false, 113, [], [.slice none 0 0], none, 24, true, 2, true⟩),
  (112, ⟨1, false, 0, [], [.nilFunc], none, 8, false, 7, true⟩),
  (113, ⟨3, true, 0, [(0, 21), (1, 3), (2, 3)], [.int .i32 0, .int .i64 0, .int .i64 0], none, 24, false, 1, true⟩),
  (114, ⟨1, false, 0, [], [.nilFunc], none, 8, false, 7, true⟩),
  (115, ⟨4, true, 0, [(0, 3), (1, 3), (2, 3), (3, 4)], [.int .i64 0, .int .i64 0, .int .i64 0, .bool false], none, 32, false, 1, true⟩),
  (116, ⟨4, true, 0, [(0, 3), (1, 3), (2, 3), (3, 4)], [.int .i64 0, .int .i64 0, .int .i64 0, .bool false], none, 32, false, 1, true⟩),
  (118, ⟨1, false, 0, [], [.nilFunc], none, 8, false, 7, true⟩),
  (120, ⟨1, false, 0, [], [.nilFunc], none, 8, false, 7, true⟩),
  (121, ⟨1, false, 0, [], [.nilFunc], none, 8, false, 7, true⟩),
  (122, ⟨1, false, 0, [], [.nilFunc], none, 8, false, 7, true⟩),
  (123, ⟨1, false, 0, [], [.nilFunc], none, 8, false, 7, true⟩),
  (124, ⟨1, false, 0, [], [.nilFunc], none, 8, false, 7, true⟩),
  (125, ⟨1, false, 0, [], [.nilFunc], none, 8, false, 7, true⟩),
  (126, ⟨1, false, 0, [], [.int .u64 0], some .u64, 8, false, 3, true⟩),
  (127, ⟨1, false, 0, [], [.nilFunc], none, 8, false, 7, true⟩),
  (129, ⟨1, false, 0, [], [.nilFunc], none, 8, false, 7, true⟩),
  (130, ⟨1, false, 0, [], [.int .u32 0], some .u32, 4, false, 3, true⟩),
  (132, ⟨1, false, 0, [], [.nilFunc], none, 8, false, 7, true⟩),
  (133, ⟨1, false, 0, [], [.nilFunc], none, 8, false, 7, true⟩),
  (134, ⟨1, false, 0, [], [.nilFunc], none, 8, false, 7, true⟩),
  (135, ⟨1, false, 0, [], [.nilFunc], none, 8, false, 7, true⟩),
  (136, ⟨4, true, 0, [(0, 17), (1, 17), (2, 17), (3, 9)], [.pointer none, .pointer none, .pointer none, .string ⟨#[]⟩], none, 40, false, 1, true⟩),
  (137, ⟨4, true, 0, [(0, 17), (1, 17), (2, 17), (3, 9)], [.pointer none, .pointer none, .pointer none, .string ⟨#[]⟩], none, 40, false, 1, true⟩),
  (138, ⟨0, true, 16, [], [], none, 0, false, 100, true⟩),
  (139, ⟨0, true, 0, [(0, 138)], [], none, 0, false, 1, true⟩),
  (140, ⟨0, true, 0, [(0, 138)], [], none, 0, false, 1, true⟩),
  (141, ⟨1, false, 0, [], [.int .u8 0], some .u8, 1, false, 3, true⟩),
  (142, ⟨1, false, 0, [], [.int .u8 0], some .u8, 1, false, 3, true⟩),
  (143, ⟨1, false, 0, [], [.nilFunc], none, 8, false, 7, true⟩),
  (144, ⟨1, false, 0, [], [.pointer none], none, 8, false, 4, true⟩),
  (145, ⟨1, false, 0, [], [.int .i32 0], some .i32, 4, false, 3, true⟩),
  (146, ⟨1, false, 0, [], [.int .i32 0], some .i32, 4, false, 3, true⟩),
  (147, ⟨11, true, 0, [(0, 12), (1, 12), (2, 130), (3, 141), (4, 5), (5, 5), (6, 142), (7, 143), (8, 144), (9, 145), (10, 146)], [.int .u64 0, .int .u64 0, .int .u32 0, .int .u8 0, .int .u8 0, .int .u8 0, .int .u8 0, .nilFunc, .pointer none, .int .i32 0, .int .i32 0], none, 48, false, 1, true⟩),
  (148, ⟨11, true, 0, [(0, 12), (1, 12), (2, 130), (3, 141), (4, 5), (5, 5), (6, 142), (7, 143), (8, 144), (9, 145), (10, 146)], [.int .u64 0, .int .u64 0, .int .u32 0, .int .u8 0, .int .u8 0, .int .u8 0, .int .u8 0, .nilFunc, .pointer none, .int .i32 0, .int .i32 0], none, 48, false, 1, true⟩)]
def tys : Tys := fun _ => tysL
theorem tyOk : TyOk Tryz.prog tys := by
  show TyOkL Tryz.prog tysL
  unfold tysL
  repeat refine TyOk.cons (TiOk.of (by kernel_rfl) (by kernel_rfl) (by kernel_rfl)) ?_
  exact TyOk.nil
end Go.Proofs.YtdmbfngenffcaaaGreat
namespace Go.Proofs.YtdmbfngenffcaaaGreat
open Go.RowKit Go.Lib
section
variable {P : Program} {ty : Tys} {w0 w : World} {g0 : Gh} {o0 : List Ob} {N : Nat} {s s' : St} {a : Act}
theorem seen_sim (ρ : List (Option Nat)) {l : Eqs} (h : seen o0 ρ s s' = some l) (hl : AllEq l) (hs : Sim w0 g0 o0 N s a w) : Sim w0 g0 o0 N s' a w := by
  unfold seen at h
  split at h
  · rename_i hk
    obtain ⟨ho, hh, hn⟩ := hk
    obtain ⟨⟨l1, h1, hl1⟩, l2, h2, hl2⟩ := both_some h hl
    have hF : Fits s.ob s'.ob ρ := renOs_get _ _ _ h2 hl2
    obtain ⟨g, M, hS, h0⟩ := hs.rel
    have head : ∀ j, j < o0.length → ρ[j]? = some (some j) := fun j hj => by
      have := List.all_eq_true.1 hh j (List.mem_range.2 hj)
      simp only [Bool.and_eq_true, beq_iff_eq] at this
      exact this.1
    refine ⟨hs.defers, hs.size, g.ren ρ, M.ren hF ho, fun t => ?_, ?_⟩
    · have : ∀ (l : List (Nat × AV)) (q : Eqs), renT s s' ρ l = some q → AllEq q → ARel w (g.ren ρ) s'.ob (a.tmps.getD t undef) (lk t l) := by
        intro l
        induction l with
        | nil => intro _ _ _; trivial
        | cons p r ih =>
          obtain ⟨u, x'⟩ := p
          intro q hq hql
          obtain ⟨⟨q1, e1, a1⟩, q2, e2, a2⟩ := both_some hq hql
          show ARel w (g.ren ρ) s'.ob _ (if t = u then x' else lk t r)
          by_cases e : t = u
          · subst e
            rw [if_pos rfl]
            exact ren1_rel hF ho (hS t) e1 a1
          · rw [if_neg e]; exact ih q2 e2 a2
      exact this _ _ h1 hl1
    · refine ⟨h0.os, h0.tape, h0.output, h0.size, h0.keep, fun b id hG => ?_, h0.imm, ⟨h0.ext.A, fun id hid => ?_, fun id hb => ?_, fun id hb => ?_, fun id et sz fz e xs hr => ?_, fun b id hG hs => ?_⟩, ?_⟩
      · obtain ⟨i, _, h3⟩ := ren_Gof hG
        exact h0.own b i h3
      · rw [ren_loc (head id hid)]; exact h0.ext.loc id hid
      · exact hF.isB (head id (isBox_lt hb)) (h0.ext.isb id hb)
      · exact hF.isI (head id (isIt_lt hb)) (h0.ext.isi id hb)
      · have hid := lt_of_some hr
        obtain ⟨fz1, e1, xs1, h3, h4, h5⟩ := h0.ext.row id et sz fz e xs hr
        obtain ⟨fz2, e2, h6, _⟩ := hF.row (head id hid) h3
        have he : e1 = e2 ∨ e < e2 := by
          have := List.all_eq_true.1 hh id (List.mem_range.2 hid)
          simp only [Bool.and_eq_true, hr, h3, h6, beq_iff_eq, Bool.or_eq_true, decide_eq_true_eq] at this
          exact this.2
        rcases he with he | he
        rotate_left
        · exact ⟨fz2, e2, xs1, h6, by omega, fun hee => by omega⟩
        subst he
        exact ⟨fz2, e1, xs1, h6, h4, fun hee => (h5 hee).turn (fun b hb => ⟨hb, rfl⟩) (fun b _ hb => ren_G ho (head id hid) hb) rfl⟩
      · obtain ⟨et, sz, fz, fz', e, xs, xs', h3, h4⟩ := hs
        have hid := lt_of_some h3
        obtain ⟨fz1, e1, xs1, h5, h6, h7⟩ := h0.ext.row id et sz fz e xs h3
        obtain ⟨fz2, e2, h8, _⟩ := hF.row (head id hid) h5
        rw [h8] at h4
        obtain ⟨rfl, rfl, rfl⟩ : fz2 = fz' ∧ e2 = e ∧ xs1 = xs' := by simpa using h4
        have he : e1 = e2 := by
          have := List.all_eq_true.1 hh id (List.mem_range.2 hid)
          simp only [Bool.and_eq_true, h3, h5, h8, beq_iff_eq, Bool.or_eq_true, decide_eq_true_eq] at this
          omega
        subst he
        obtain ⟨h9, h10⟩ := h0.ext.sub b id hG ⟨_, _, _, _, _, _, _, h3, h5⟩
        have h11 := ren_sub (g := g) ho (head id hid) ((h7 rfl).G hG)
        exact ⟨h11.trans h9, h10⟩
      · rw [← hF.1]; exact hn
  · cases h
end
end Go.Proofs.YtdmbfngenffcaaaGreat
namespace Go.Proofs.YtdmbfngenffcaaaGreat
open Go.RowKit Go.Lib
theorem least (p : Nat → Prop) (h : ∃ n, p n) : ∃ n, p n ∧ ∀ m, p m → n ≤ m := by
  obtain ⟨n, hn⟩ := h
  induction n using Nat.strongRecOn with
  | _ n ih =>
    by_cases h : ∃ m, m < n ∧ p m
    · obtain ⟨m, h1, h2⟩ := h
      exact ih m h1 h2
    · exact ⟨n, hn, fun m hm => Nat.le_of_not_lt fun hlt => h ⟨m, hlt, hm⟩⟩
def Seen (o0 : List Ob) (s s' : St) : Prop := ∃ ρ l, seen o0 ρ s s' = some l ∧ AllEq l
section
variable {P : Program} {ty : Tys} {w0 : World} {g0 : Gh} {o0 : List Ob} {N : Nat}
def RoundOk {X : Type} (o0 : List Ob) (S : X → St) (J : X → Prop) (μ : X → Nat) (x : X) (Q : Ex → St → Prop) : Ex → St → Prop
  | .normal, s => ∃ x', J x' ∧ μ x' < μ x ∧ Seen o0 s (S x')
  | e, s => Q e s
theorem loop_rule (hT : TyOk P ty) (hm : P.follows .mixedOrders = true) {cs : Nat → List AV → List Ob → Option (AV × List Ob)} {ord : Nat → OT} {c : Code} (hd : dstOk N c = true) (ho : ordOk .any ty ord c = true)
    {X : Type} (S : X → St) (J : X → Prop) (μ : X → Nat) {Q : Ex → St → Prop} {s : St} (x0 : X) (h0 : J x0) (hS : Seen o0 s (S x0))
    (round : ∀ x, J x → (aexec std ty cs ord c (fun e s => .leaf e s) (S x)).ok P w0 g0 o0 N (RoundOk o0 S J μ x Q)) : WP P w0 g0 o0 N (.loop c) Q s := by
  intro a w hs
  obtain ⟨ρ, l, hl, hE⟩ := hS
  let I : Act → World → Prop := fun a w => ∃ x, J x ∧ Sim w0 g0 o0 N (S x) a w
  let pm : Act → World → Nat → Prop := fun a w n => ∃ x, J x ∧ Sim w0 g0 o0 N (S x) a w ∧ μ x = n
  let m : Act → World → Nat := fun a w => open Classical in if h : ∃ n, pm a w n then Classical.choose (least _ h) else 0
  have hmin : ∀ a w, I a w → pm a w (m a w) ∧ ∀ k, pm a w k → m a w ≤ k := fun a w hI => by
    have h : ∃ n, pm a w n := by
      obtain ⟨x, h1, h2⟩ := hI
      exact ⟨μ x, x, h1, h2, rfl⟩
    have e : m a w = Classical.choose (least _ h) := dif_pos h
    rw [e]
    exact Classical.choose_spec (least _ h)
  refine wp_loop I m ⟨x0, h0, seen_sim ρ hl hE hs⟩ fun a w hI => ?_
  obtain ⟨⟨x, hJ, hx, hμ⟩, hle⟩ := hmin a w hI
  refine aexec_sound (Q := RoundOk o0 S J μ x Q) hT hm c _ _ (S x) a w hd ho (fun c a d v w h => ?_) (fun e s a' w' ht hs' hq => ?_) (fun v s a w ht hs h => ⟨.pan v, s, rfl, fun _ _ => ht, hs, h⟩) hx (round x hJ)
  · obtain ⟨e', s', h1, ht, h2, h3⟩ := h
    cases e' <;> cases h1
    have et : s'.tm = [] := ht _ rfl
    obtain ⟨g, M, _, h0⟩ := h2.rel
    exact ⟨.pan _, s', rfl, ht, ⟨h2.defers, by have := h2.size; simpa [Act.put] using this, g, M, fun t => by rw [et]; trivial, h0⟩, h3⟩
  · cases e with
    | normal =>
      obtain ⟨x', h1, h2, ρ', l', h3, h4⟩ := hq
      have hs2 := seen_sim ρ' h3 h4 hs'
      have hI' : I a' w' := ⟨x', h1, hs2⟩
      refine ⟨hI', Nat.lt_of_le_of_lt ((hmin a' w' hI').2 _ ⟨x', h1, hs2, rfl⟩) ?_⟩
      rw [← hμ]; exact h2
    | exit i => exact ⟨.exit i, s, rfl, ht, hs', hq⟩
    | ret => exact ⟨.ret, s, rfl, ht, hs', hq⟩
    | pan v => exact ⟨.pan v, s, rfl, ht, hs', hq⟩
end
end Go.Proofs.YtdmbfngenffcaaaGreat
namespace Go.Proofs.YtdmbfngenffcaaaGreat
open Go.RowKit Go.Lib
section
variable {P : Program} {w w' : World} {g : Gh} {ob : List Ob}
theorem argsNil {vs : List Value} (h : ARelL w g ob vs []) : vs = [] := List.eq_nil_of_length_eq_zero h.1
theorem argsCons {vs : List Value} {x : AV} {r : List AV} (h : ARelL w g ob vs (x :: r)) : ∃ v vs', vs = v :: vs' ∧ ARel1 w g ob v x ∧ ARelL w g ob vs' r := by
  cases vs with
  | nil => exact absurd h.1 (by simp)
  | cons v vs => exact ⟨v, vs, rfl, h.2 0 v x rfl rfl, by simpa using h.1, fun j a b ha hb => h.2 (j + 1) a b (by simpa using ha) (by simpa using hb)⟩
theorem argVal {v u : Value} (h : ARel1 w g ob v (.val u)) : v = u := ARel.valEq (ARel1.to h)
theorem argRd {v : Value} {sz : Nat} {xs : List AV} (h : ARel1 w g [] v (.slc sz xs)) (M : Mem w g []) :
    ∃ A c ys, v = .slice A xs.length c ∧ Rd w (fun _ => True) sz A xs.length c ys ∧ Alike w g.A ys (flatA xs) :=
  elems_rel (s := ⟨[], []⟩) M (ARel1.to h) rfl
theorem alikeVals {A : Nat → Nat → Prop} {us : List Value} : ∀ {ys : List Value}, Alike w A ys (us.map .val) → ys = us := by
  induction us with
  | nil => intro ys h; exact List.eq_nil_of_length_eq_zero h.1
  | cons u us ih =>
    intro ys h
    cases ys with
    | nil => exact absurd h.1 (by simp)
    | cons y ys =>
      have h1 : PRel w A y (.val u) := h.2 0 y (.val u) rfl rfl
      have h2 : y = u := by cases h1; rfl
      rw [h2, ih (ys := ys) ⟨by simpa using h.1, fun j a b ha hb => h.2 (j + 1) a b (by simpa using ha) (by simpa using hb)⟩]
theorem flatVals (us : List Value) : flatA (us.map .val) = us.map .val := by
  induction us with
  | nil => rfl
  | cons u us ih => simp only [flatA, List.map_cons, List.flatMap_cons] at ih ⊢; rw [ih]; rfl
theorem rd_slc {A' : Nat → Nat → Prop} {S : Nat → Prop} {sz n c : Nat} {A : Option Addr} {ys : List Value} {xs : List AV} (hr : Rd w S sz A n c ys) (hS : ∀ b o, S b → A' b o) (hn : n = xs.length) (hw : ∀ x ∈ xs, x.cells.length = sz) (hA : ∀ a, A = some a → ∃ b o, a = ⟨b, o, none⟩)
    (hal : Alike w A' ys (flatA xs)) : PRel w A' (.slice A n c) (.slc sz xs) := by
  subst hn
  obtain ⟨h1, h2, h3, h4, h5⟩ := hr
  cases A with
  | none =>
    have hc := h4 rfl
    subst hc
    have : xs = [] := List.eq_nil_of_length_eq_zero (by omega)
    subst this
    exact PRel.nil sz
  | some a =>
    obtain ⟨b, o, rfl⟩ := hA a rfl
    have pos : ∀ (j : Nat) u, (flatA xs)[j]? = some u → 0 < xs.length := fun j u hu => by
      cases xs with
      | nil => simp at hu
      | cons _ _ => simp
    have h5' : 0 < xs.length → S b ∧ ∀ j u, ys[j]? = some u → w.cell? ⟨b, o + j, none⟩ = some u := fun h => by
      obtain ⟨b', o', h6, h7, h8⟩ := h5 h
      cases h6
      exact ⟨h7, h8⟩
    have get : ∀ (j : Nat) u, (flatA xs)[j]? = some u → ∃ y, ys[j]? = some y ∧ ys.getD j undef = y := fun j u hu => by
      have hj : j < ys.length := by rw [hal.1]; exact lt_of_some hu
      exact ⟨ys[j], List.getElem?_eq_getElem hj, by rw [List.getD_eq_getElem?_getD, List.getElem?_eq_getElem hj]; rfl⟩
    refine PRel.slc b o c sz xs (fun j => ys.getD j undef) h2 h3 hw (fun j u hu => ?_) (fun j u hu => ?_)
    · obtain ⟨y, hy, he⟩ := get j u hu
      obtain ⟨h7, h8⟩ := h5' (pos j u hu)
      exact ⟨hS _ _ h7, by rw [he]; exact h8 j y hy⟩
    · obtain ⟨y, hy, he⟩ := get j u hu
      rw [he]; exact hal.2 j y u hy hu
theorem leT_rel : ∀ {vs : List Value} {xs ys : List AV}, ARelL w g ob vs xs → leT xs ys → ARelL w g ob vs ys
  | vs, [], [], h, _ => h
  | _, [], _ :: _, _, hl => hl.elim
  | _, _ :: _, [], _, hl => hl.elim
  | [], x :: r, y :: r', h, _ => absurd h.1 (by simp)
  | v :: vs, x :: r, y :: r', h, hl => by
    have h1 := h.2 0 v x rfl rfl
    have h2 : ARelL w g ob vs r' := leT_rel (xs := r) ⟨by simpa using h.1, fun j a b ha hb => h.2 (j + 1) a b (by simpa using ha) (by simpa using hb)⟩ hl.2
    refine ⟨by simp [h2.1], fun j a b ha hb => ?_⟩
    cases j with
    | zero =>
      obtain rfl : v = a := by simpa using ha
      obtain rfl : y = b := by simpa using hb
      exact leA1_rel h1 hl.1
    | succ j => exact h2.2 j a b (by simpa using ha) (by simpa using hb)
theorem BCall.le {f : Nat} {args args' : List AV} {ob ob' : List Ob} {res : AV} (h : BCall P f args' ob res ob') (hl : leT args args') : BCall P f args ob res ob' :=
  ⟨h.1, fun w g vs M hL => h.2 w g vs M (leT_rel hL hl)⟩
theorem BCall.forget {f : Nat} {args : List AV} {ob ob' : List Ob} {res : AV} (h : BCall P f args ob res ob') : BCall P f args ob .dead ob' :=
  ⟨h.1, fun w g vs M hL => (h.2 w g vs M hL).mono fun e w' ⟨v, g', h1, h2, h3, h4⟩ => ⟨v, g', h1, h2, trivial, h4⟩⟩
theorem BCall.res {f : Nat} {args : List AV} {ob ob' : List Ob} {res res' : AV} (h : BCall P f args ob res ob') (hl : leA res res') : BCall P f args ob res' ob' :=
  ⟨h.1, fun w g vs M hL => (h.2 w g vs M hL).mono fun e w' ⟨v, g', h1, h2, h3, h4⟩ => ⟨v, g', h1, h2, leA_rel h3 hl, h4⟩⟩
theorem BCall.hand {f : Nat} {args : List AV} {res : AV} (he : ∀ vs w, (callFunc f vs).run P w = .ok (.enter f vs) w)
    (h : ∀ (w : World) (g : Gh) (vs : List Value), Mem w g [] → ARelL w g [] vs args → Calls P f vs.toArray w fun e w' => ∃ v, e = .returned v ∧ Below w.heap.size w w' ∧ ARel w' (g.imm w w') [] v res) : BCall P f args [] res [] :=
  ⟨he, fun w g vs M hL => (h w g vs M hL).mono fun e w' ⟨v, h1, hb, hr⟩ => ⟨v, g.imm w w', h1, M.immNew hb, hr, Step.immNew M hb⟩⟩
end
end Go.Proofs.YtdmbfngenffcaaaGreat
namespace Go.Proofs.YtdmbfngenffcaaaGreat
open Go.RowKit Go.Lib
def byteA (x : UInt8) : AV := .val (.int .u8 x.toNat)
def runeA (r : Int) : AV := .val (.int .i32 r)
def intA (n : Int) : AV := .val (.int .i64 n)
def bytesA (b : List UInt8) : List AV := b.map byteA
def runesA (l : List Int) : List AV := l.map runeA
def intsA (l : List Int) : List AV := l.map intA
theorem getA {α : Type} (f : α → AV) {l : List α} {i : Int} (h0 : 0 ≤ i) (h1 : i < l.length) (d : α) : (l.map f)[i.toNat]?.getD .dead = f (l[i.toNat]?.getD d) := by
  have : i.toNat < l.length := by omega
  simp [this]
theorem bytes_len (l : List UInt8) : (bytesA l).length = l.length := by simp [bytesA]
theorem runes_len (l : List Int) : (runesA l).length = l.length := by simp [runesA]
theorem runes_app (a b : List Int) : runesA (a ++ b) = runesA a ++ runesA b := by simp [runesA]
theorem ints_at {l : List Int} {i : Int} (h0 : 0 ≤ i) (h1 : i < l.length) : (intsA l)[i.toNat]?.getD .dead = .val (.int .i64 (l[i.toNat]?.getD 0)) := getA intA h0 h1 0
theorem inR64 (n : Int) : std.inR .i64 n ↔ (-9223372036854775808 ≤ n ∧ n ≤ 9223372036854775807) := Iff.rfl
theorem S0 : (false = true) = False ∧ (true = false) = False ∧ (∀ p : Prop, (False → p) = True) ∧ (∀ p : Prop, (True → p) = p) ∧ (∀ p : Prop, (p ∧ True) = p) ∧ (∀ p : Prop, (True ∧ p) = p) := by simp
theorem S1 : allP [] = True ∧ (∀ q r, allP (q :: r) = (q.q ∧ allP r)) ∧ (∀ c, (AV.agg c).cells = c) ∧ (∀ v, (AV.val v).cells = [.val v]) ∧ (∀ a b, (AV.slc a b).cells = [.slc a b]) ∧ (∀ c, (AV.ref c).cells = [.ref c]) ∧ (∀ c, (AV.opt c).cells = [.opt c]) ∧ (∀ c, (AV.tup c).cells = [.tup c]) ∧ (∀ a b, (AV.box a b).cells = [.box a b]) ∧ (∀ a b, (AV.row a b).cells = [.row a b]) ∧ (∀ a b c, (AV.rowk a b c).cells = [.rowk a b c]) ∧ (∀ a b c d, (AV.rptr a b c d).cells = [.rptr a b c d]) ∧ (∀ c, (AV.kb c).cells = [.kb c]) ∧ (∀ c, (AV.iter c).cells = [.iter c]) ∧ AV.dead.cells = [.dead] ∧
    (∀ k n, intOf (.val (.int k n)) = n) ∧ (∀ b, booOf (.val (.bool b)) = b) ∧ (∀ z xs, lstOf (.slc z xs) = xs) ∧ (∀ v, lstOf (.val v) = []) ∧ IntKind.min .i64 = -9223372036854775808 ∧ IntKind.max .i64 = 9223372036854775807 ∧ IntKind.min .i32 = -2147483648 ∧ IntKind.max .i32 = 2147483647 :=
  ⟨rfl, fun _ _ => rfl, fun _ => rfl, fun _ => rfl, fun _ _ => rfl, fun _ => rfl, fun _ => rfl, fun _ => rfl, fun _ _ => rfl, fun _ _ => rfl, fun _ _ _ => rfl, fun _ _ _ _ => rfl, fun _ => rfl, fun _ => rfl, rfl, fun _ _ => rfl, fun _ => rfl, fun _ _ => rfl, fun _ => rfl, rfl, rfl, rfl, rfl⟩
theorem gI {a b : Int} (h : a = b) : AV.val (.int .i64 a) = .val (.int .i64 b) := congrArg _ (congrArg _ h)
theorem gR {a b : Int} (h : a = b) : AV.val (.int .i32 a) = .val (.int .i32 b) := congrArg _ (congrArg _ h)
theorem gB {a b : Bool} (h : a = b) : AV.val (.bool a) = .val (.bool b) := congrArg _ (congrArg _ h)
theorem gT {a b : ByteArray} (h : a = b) : AV.val (.string a) = .val (.string b) := congrArg _ (congrArg _ h)
theorem gA {n : Nat} {a b : List AV} (h : a = b) : AV.slc n a = .slc n b := congrArg _ h
def Tg {α : Type} (_ : α) (P : Prop) : Prop := P
theorem tg {α : Type} {x : α} {P : Prop} (h : ∀ y, x = y → P) : Tg x P := h x rfl
theorem cv0 {Q P : Prop} (k : Q) (h : Q → P := by
  generalize hp : std = p
  first
    | (generalize hT : aexec p tys _ _ _ _ _ = T; with_unfolding_all cbv at hT; subst hT)
    | (generalize hT : endK p tys _ _ _ _ = T; with_unfolding_all cbv at hT; subst hT)
  intro k
  simp only [Tree.ok, RoundOk, S0]
  subst hp
  exact k) : P := h k
theorem cv1 {a1 : Type} (x1 : a1) {Q P : Prop} (k : Q) (h : Tg x1 <| (Q → P) := by
  refine tg fun y1 h1 => ?_
  try rw [h1]
  generalize hp : std = p
  first
    | (generalize hT : aexec p tys _ _ _ _ _ = T; with_unfolding_all cbv at hT; subst hT)
    | (generalize hT : endK p tys _ _ _ _ = T; with_unfolding_all cbv at hT; subst hT)
  intro k
  simp only [Tree.ok, RoundOk, S0]
  subst hp h1
  exact k) : P := h k
theorem cv2 {a1 a2 : Type} (x1 : a1) (x2 : a2) {Q P : Prop} (k : Q) (h : Tg x1 <| Tg x2 <| (Q → P) := by
  refine tg fun y1 h1 => ?_
  try rw [h1]
  refine tg fun y2 h2 => ?_
  try rw [h2]
  generalize hp : std = p
  first
    | (generalize hT : aexec p tys _ _ _ _ _ = T; with_unfolding_all cbv at hT; subst hT)
    | (generalize hT : endK p tys _ _ _ _ = T; with_unfolding_all cbv at hT; subst hT)
  intro k
  simp only [Tree.ok, RoundOk, S0]
  subst hp h1 h2
  exact k) : P := h k
theorem cv5 {a1 a2 a3 a4 a5 : Type} (x1 : a1) (x2 : a2) (x3 : a3) (x4 : a4) (x5 : a5) {Q P : Prop} (k : Q) (h : Tg x1 <| Tg x2 <| Tg x3 <| Tg x4 <| Tg x5 <| (Q → P) := by
  refine tg fun y1 h1 => ?_
  try rw [h1]
  refine tg fun y2 h2 => ?_
  try rw [h2]
  refine tg fun y3 h3 => ?_
  try rw [h3]
  refine tg fun y4 h4 => ?_
  try rw [h4]
  refine tg fun y5 h5 => ?_
  try rw [h5]
  generalize hp : std = p
  first
    | (generalize hT : aexec p tys _ _ _ _ _ = T; with_unfolding_all cbv at hT; subst hT)
    | (generalize hT : endK p tys _ _ _ _ = T; with_unfolding_all cbv at hT; subst hT)
  intro k
  simp only [Tree.ok, RoundOk, S0]
  subst hp h1 h2 h3 h4 h5
  exact k) : P := h k
theorem cv6 {a1 a2 a3 a4 a5 a6 : Type} (x1 : a1) (x2 : a2) (x3 : a3) (x4 : a4) (x5 : a5) (x6 : a6) {Q P : Prop} (k : Q) (h : Tg x1 <| Tg x2 <| Tg x3 <| Tg x4 <| Tg x5 <| Tg x6 <| (Q → P) := by
  refine tg fun y1 h1 => ?_
  try rw [h1]
  refine tg fun y2 h2 => ?_
  try rw [h2]
  refine tg fun y3 h3 => ?_
  try rw [h3]
  refine tg fun y4 h4 => ?_
  try rw [h4]
  refine tg fun y5 h5 => ?_
  try rw [h5]
  refine tg fun y6 h6 => ?_
  try rw [h6]
  generalize hp : std = p
  first
    | (generalize hT : aexec p tys _ _ _ _ _ = T; with_unfolding_all cbv at hT; subst hT)
    | (generalize hT : endK p tys _ _ _ _ = T; with_unfolding_all cbv at hT; subst hT)
  intro k
  simp only [Tree.ok, RoundOk, S0]
  subst hp h1 h2 h3 h4 h5 h6
  exact k) : P := h k
theorem cv7 {a1 a2 a3 a4 a5 a6 a7 : Type} (x1 : a1) (x2 : a2) (x3 : a3) (x4 : a4) (x5 : a5) (x6 : a6) (x7 : a7) {Q P : Prop} (k : Q) (h : Tg x1 <| Tg x2 <| Tg x3 <| Tg x4 <| Tg x5 <| Tg x6 <| Tg x7 <| (Q → P) := by
  refine tg fun y1 h1 => ?_
  try rw [h1]
  refine tg fun y2 h2 => ?_
  try rw [h2]
  refine tg fun y3 h3 => ?_
  try rw [h3]
  refine tg fun y4 h4 => ?_
  try rw [h4]
  refine tg fun y5 h5 => ?_
  try rw [h5]
  refine tg fun y6 h6 => ?_
  try rw [h6]
  refine tg fun y7 h7 => ?_
  try rw [h7]
  generalize hp : std = p
  first
    | (generalize hT : aexec p tys _ _ _ _ _ = T; with_unfolding_all cbv at hT; subst hT)
    | (generalize hT : endK p tys _ _ _ _ = T; with_unfolding_all cbv at hT; subst hT)
  intro k
  simp only [Tree.ok, RoundOk, S0]
  subst hp h1 h2 h3 h4 h5 h6 h7
  exact k) : P := h k
theorem cv8 {a1 a2 a3 a4 a5 a6 a7 a8 : Type} (x1 : a1) (x2 : a2) (x3 : a3) (x4 : a4) (x5 : a5) (x6 : a6) (x7 : a7) (x8 : a8) {Q P : Prop} (k : Q) (h : Tg x1 <| Tg x2 <| Tg x3 <| Tg x4 <| Tg x5 <| Tg x6 <| Tg x7 <| Tg x8 <| (Q → P) := by
  refine tg fun y1 h1 => ?_
  try rw [h1]
  refine tg fun y2 h2 => ?_
  try rw [h2]
  refine tg fun y3 h3 => ?_
  try rw [h3]
  refine tg fun y4 h4 => ?_
  try rw [h4]
  refine tg fun y5 h5 => ?_
  try rw [h5]
  refine tg fun y6 h6 => ?_
  try rw [h6]
  refine tg fun y7 h7 => ?_
  try rw [h7]
  refine tg fun y8 h8 => ?_
  try rw [h8]
  generalize hp : std = p
  first
    | (generalize hT : aexec p tys _ _ _ _ _ = T; with_unfolding_all cbv at hT; subst hT)
    | (generalize hT : endK p tys _ _ _ _ = T; with_unfolding_all cbv at hT; subst hT)
  intro k
  simp only [Tree.ok, RoundOk, S0]
  subst hp h1 h2 h3 h4 h5 h6 h7 h8
  exact k) : P := h k
theorem cv9 {a1 a2 a3 a4 a5 a6 a7 a8 a9 : Type} (x1 : a1) (x2 : a2) (x3 : a3) (x4 : a4) (x5 : a5) (x6 : a6) (x7 : a7) (x8 : a8) (x9 : a9) {Q P : Prop} (k : Q) (h : Tg x1 <| Tg x2 <| Tg x3 <| Tg x4 <| Tg x5 <| Tg x6 <| Tg x7 <| Tg x8 <| Tg x9 <| (Q → P) := by
  refine tg fun y1 h1 => ?_
  try rw [h1]
  refine tg fun y2 h2 => ?_
  try rw [h2]
  refine tg fun y3 h3 => ?_
  try rw [h3]
  refine tg fun y4 h4 => ?_
  try rw [h4]
  refine tg fun y5 h5 => ?_
  try rw [h5]
  refine tg fun y6 h6 => ?_
  try rw [h6]
  refine tg fun y7 h7 => ?_
  try rw [h7]
  refine tg fun y8 h8 => ?_
  try rw [h8]
  refine tg fun y9 h9 => ?_
  try rw [h9]
  generalize hp : std = p
  first
    | (generalize hT : aexec p tys _ _ _ _ _ = T; with_unfolding_all cbv at hT; subst hT)
    | (generalize hT : endK p tys _ _ _ _ = T; with_unfolding_all cbv at hT; subst hT)
  intro k
  simp only [Tree.ok, RoundOk, S0]
  subst hp h1 h2 h3 h4 h5 h6 h7 h8 h9
  exact k) : P := h k
theorem eq0 {P : Prop} (h : P := by
  repeat first
    | exact trivial
    | refine ⟨rfl, ?_⟩) : P := h
theorem eq1 {H1 P : Prop} (e1 : H1) (h : H1 → P := by
  intro e1
  repeat first
    | exact trivial
    | refine ⟨rfl, ?_⟩
    | refine ⟨e1, ?_⟩
    | refine ⟨gI e1, ?_⟩
    | refine ⟨gA e1, ?_⟩
    | refine ⟨gB e1, ?_⟩
    | refine ⟨gR e1, ?_⟩
    | refine ⟨gT e1, ?_⟩) : P := h e1
theorem mixO : Tryz.prog.follows .mixedOrders = true := by kernel_rfl
theorem fnO (keep : Bool) (cs : Nat → List AV → List Ob → Option (AV × List Ob)) (ord : Nat → OT) {f : Nat} {fn : Func} {c : Code} {args : List AV} {ob : List Ob} {res : AV} {ob' : List Ob} (hf : Tryz.prog.funcs[f]? = some fn) (hb : fn.body = some c) (h : ∀ w0 g0, (aexec std tys cs ord c (endK std tys keep fn.results.toList) ⟨ent 0 args, ob⟩).ok Tryz.prog w0 g0 ob fn.ntmps (FinOk ob res ob'))
    (hk : (Nat.ble args.length fn.ntmps && (dstOk fn.ntmps c && (ordOk .any tys ord c && !(fn.name == "runtime.NumGoroutine")))) = true := by kernel_rfl) : BCall Tryz.prog f args ob res ob' := by
  simp only [Bool.and_eq_true, Bool.not_eq_true'] at hk
  exact bcall_any keep tyOk mixO hf hb (enters_of hf hk.2.2.2 hb) (Nat.le_of_ble_eq_true hk.1) hk.2.1 hk.2.2.1 h
theorem fnN (cs : Nat → List AV → List Ob → Option (AV × List Ob)) {f : Nat} {fn : Func} {c : Code} {args : List AV} {ob : List Ob} {res : AV} {ob' : List Ob} (hf : Tryz.prog.funcs[f]? = some fn) (hb : fn.body = some c) (h : ∀ w0 g0, (aexec std tys cs (fun _ => .nil) c (endK std tys false fn.results.toList) ⟨ent 0 args, ob⟩).ok Tryz.prog w0 g0 ob fn.ntmps (FinOk ob res ob'))
    (hk : (Nat.ble args.length fn.ntmps && (dstOk fn.ntmps c && (ordOk .any tys (fun _ => .nil) c && !(fn.name == "runtime.NumGoroutine")))) = true := by kernel_rfl) : BCall Tryz.prog f args ob res ob' :=
  fnO false cs _ hf hb h hk
theorem loopN {w0 : World} {g0 : Gh} {o0 : List Ob} {N : Nat} (cs : Nat → List AV → List Ob → Option (AV × List Ob)) {c : Code} (X : Type) (S : X → St) (J : X → Prop) (μ : X → Nat) {Q : Ex → St → Prop} {s : St} (x0 : X) (h0 : J x0) (hS : Seen o0 s (S x0))
    (round : ∀ x, J x → (aexec std tys cs (fun _ => .nil) c (fun e s => .leaf e s) (S x)).ok Tryz.prog w0 g0 o0 N (RoundOk o0 S J μ x Q)) (hk : (dstOk N c && ordOk .any tys (fun _ => .nil) c) = true := by kernel_rfl) : WP Tryz.prog w0 g0 o0 N (.loop c) Q s := by
  rw [Bool.and_eq_true] at hk
  exact loop_rule tyOk mixO hk.1 hk.2 S J μ x0 h0 hS round
def Len {α : Type} (xs : List α) (n : Int) : Prop := n = xs.length
theorem Len.eq {α : Type} {xs : List α} {n : Int} (h : Len xs n) : n = (xs.length : Int) := h
theorem exLen {α : Type} (xs : List α) : ∃ n, Len xs n := ⟨_, rfl⟩
def cs0 : Nat → List AV → List Ob → Option (AV × List Ob) := fun _ _ _ => none
end Go.Proofs.YtdmbfngenffcaaaGreat
namespace Go.Proofs.YtdmbfngenffcaaaGreat
open Go.RowKit Go.Lib
def endR (t : Nat) (e : Ex) (s : St) : Tree := match e with
  | .exit _ => .stuck 70
  | .pan v => .leaf (.pan v) s
  | _ => match lk t s.tm with
    | .row i ep => .leaf .ret ⟨[(0, .row i ep)], s.ob⟩
    | _ => .stuck 71
theorem bcall_row {P : Program} {ty : Tys} (hT : TyOk P ty) (hm : P.follows .mixedOrders = true) {cs : Nat → List AV → List Ob → Option (AV × List Ob)} {ord : Nat → OT} (t : Nat)
    {f : Nat} {fn : Func} {c : Code} {args : List AV} {ob : List Ob} {res : AV} {ob' : List Ob} (hf : P.funcs[f]? = some fn) (hb : fn.body = some c) (hr : fn.results = #[.tmp t]) (he : ∀ vs w, (callFunc f vs).run P w = .ok (.enter f vs) w)
    (hn : args.length ≤ fn.ntmps) (hd : dstOk fn.ntmps c = true) (ho : ordOk .any ty ord c = true)
    (h : ∀ w0 g0, (aexec std ty cs ord c (endR t) ⟨ent 0 args, ob⟩).ok P w0 g0 ob fn.ntmps (FinOk ob res ob')) : BCall P f args ob res ob' := by
  refine ⟨he, fun w g vs M hL => calls_of_wp hf hb ?_⟩
  have hlen : vs.length = args.length := hL.1
  refine aexec_sound (w0 := w) (g0 := g) (o0 := ob) (N := fn.ntmps) (Q := FinOk ob res ob') hT hm c _ _ ⟨ent 0 args, ob⟩ _ w hd ho (fun c a d v w h => h) (fun e s a w' ht hs hq => ?_) (fun v s a w' ht _ hq => by unfold FinOk at hq; rw [ht] at hq; exact hq.elim) ⟨rfl, ?_, g, M, fun t => ?_, Step.refl⟩ (h w g)
  · have fin : ∀ {T : Tree}, T = (match lk t s.tm with | .row i ep => .leaf .ret ⟨[(0, .row i ep)], s.ob⟩ | _ => .stuck 71) → T.ok P w g ob fn.ntmps (FinOk ob res ob') →
        a.defers = [] ∧ ∃ v, (results fn a.tmps).run P w' = .ok v w' ∧ ∃ v' g', Ending.returned v = .returned v' ∧ Mem w' g' ob' ∧ ARel w' g' ob' v' res ∧ Step w g ob w' g' ob' := fun hT' hq => by
      obtain ⟨g', M', hS, h0⟩ := hs.rel
      have hv := hS t
      have hrun : (results fn a.tmps).run P w' = .ok (a.tmps.getD t undef) w' := by
        simp [results, hr]
      cases hx : lk t s.tm with
      | row i ep =>
        rw [hx] at hT' hv
        subst hT'
        obtain ⟨ρ, r', l, h1, h2, h3, h4, h5, h6⟩ := (show FinOk ob res ob' .ret ⟨[(0, .row i ep)], s.ob⟩ from hq)
        obtain ⟨⟨l1, e1, a1⟩, l2, e2, a2⟩ := both_some h4 h5
        have hF : Fits s.ob ob' ρ := renOs_get _ _ _ e2 a2
        exact ⟨hs.defers, _, hrun, _, g'.ren ρ, rfl, M'.ren hF h1, leA_rel (renR_rel hF h1 hv e1 a1) h6, step_ren hF h1 h2 h3 h0⟩
      | _ => rw [hx] at hT'; subst hT'; exact (show False from hq).elim
    cases e with
    | normal => exact fin rfl hq
    | ret => exact fin rfl hq
    | exit i => exact (show False from hq).elim
    | pan v => exact (by have hq : FinOk ob res ob' (.pan v) s := hq; unfold FinOk at hq; rw [ht v rfl] at hq; exact hq.elim)
  · simp; omega
  · show ARel w g ob _ (lk t (ent 0 args))
    rw [lk_ent]
    simp only [Nat.zero_le, if_true, Nat.sub_zero]
    by_cases ht : t < args.length
    · rw [List.getD_eq_getElem?_getD, List.getElem?_eq_getElem ht, Option.getD_some]
      have e : (vs.toArray ++ Array.replicate (fn.ntmps - vs.toArray.size) undef).getD t undef = vs[t]'(by omega) := by
        rw [Array.getD_eq_getD_getElem?, Array.getElem?_append_left (by simp; omega)]
        simp [show t < vs.length by omega]
      rw [e]
      exact (hL.2 t _ _ (List.getElem?_eq_getElem (by omega)) (List.getElem?_eq_getElem ht)).to
    · rw [List.getD_eq_getElem?_getD, List.getElem?_eq_none (by omega)]
      trivial
theorem fnR (t : Nat) (cs : Nat → List AV → List Ob → Option (AV × List Ob)) (ord : Nat → OT) {f : Nat} {fn : Func} {c : Code} {args : List AV} {ob : List Ob} {res : AV} {ob' : List Ob} (hf : Tryz.prog.funcs[f]? = some fn) (hb : fn.body = some c) (hr : fn.results = #[.tmp t])
    (h : ∀ w0 g0, (aexec std tys cs ord c (endR t) ⟨ent 0 args, ob⟩).ok Tryz.prog w0 g0 ob fn.ntmps (FinOk ob res ob'))
    (hk : (Nat.ble args.length fn.ntmps && (dstOk fn.ntmps c && (ordOk .any tys ord c && !(fn.name == "runtime.NumGoroutine")))) = true := by kernel_rfl) : BCall Tryz.prog f args ob res ob' := by
  simp only [Bool.and_eq_true, Bool.not_eq_true'] at hk
  exact bcall_row tyOk mixO t hf hb hr (enters_of hf hk.2.2.2 hb) (Nat.le_of_ble_eq_true hk.1) hk.2.1 hk.2.2.1 h
end Go.Proofs.YtdmbfngenffcaaaGreat
namespace Go.Proofs.YtdmbfngenffcaaaGreat
open Go.RowKit Go.Lib
section
variable {w w' : World} {g g' : Gh} {ob ob2 ob2' obr : List Ob} {ρ ρ' : List (Option Nat)}
end
section
variable {P : Program} {ty : Tys} {w0 : World} {g0 : Gh} {o0 : List Ob} {N : Nat}
end
end Go.Proofs.YtdmbfngenffcaaaGreat
