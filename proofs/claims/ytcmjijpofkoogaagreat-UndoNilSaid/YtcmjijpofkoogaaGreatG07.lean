/- Lemmas, conditions told -/
import Derived.Test.YtcmjijpofkoogaaGreatG06
import Derived.Great.BuildSlice
set_option linter.unusedSimpArgs false
set_option linter.unusedVariables false
namespace Go.Proofs.YtcmjijpofkoogaaGreat
open Go.RowKit Go.Lib
section
variable {w : World} {g : Gh} {ob : List Ob}
def Gh.frzBox (g : Gh) (b n : Nat) : Gh := ⟨fun b' o => g.A b' o ∨ (b' = b ∧ o < n), fun b' => if b' = b then none else g.G b', g.loc, g.sub⟩
theorem freeze_box (M : Mem w g ob) {id : Nat} {cs us : List AV} (h : ob[id]? = some (.box cs)) (hu : ∀ (j : Nat) u, us[j]? = some u → ∃ y, w.cell? ⟨g.loc id, j, none⟩ = some y ∧ PRel w g.A y u) :
    ∃ g', Mem w g' (ob.set id (.fbox us)) ∧ Ext w g ob w g' (ob.set id (.fbox us)) ∧ GhLe g g' ob (ob.set id (.fbox us)) ∧
      ∀ (j : Nat) u, us[j]? = some u → g'.A (g.loc id) j ∧ ∃ y, w.cell? ⟨g.loc id, j, none⟩ = some y ∧ PRel w g'.A y u := by
  have hid := lt_of_some h
  obtain ⟨hG, cur, T, hh, hc⟩ := M.box id cs h
  have hb := (M.own _ _ hG).1
  have ne : ∀ {b i : Nat}, g.G b = some i → i ≠ id → b ≠ g.loc id := by
    rintro b i h1 h2 rfl
    rw [hG] at h1
    exact h2 (by simpa using h1.symm)
  have G' : ∀ {b i : Nat}, g.G b = some i → i ≠ id → (g.frzBox (g.loc id) us.length).G b = some i := fun h1 h2 => by simp only [Gh.frzBox]; rw [if_neg (ne h1 h2)]; exact h1
  have Gof : ∀ {b i : Nat}, (g.frzBox (g.loc id) us.length).G b = some i → g.G b = some i := fun {b i} h1 => by
    have h1 : (if b = g.loc id then none else g.G b) = some i := h1
    split at h1
    · cases h1
    · exact h1
  have E : Ext w g ob w (g.frzBox (g.loc id) us.length) (ob.set id (.fbox us)) := by
    refine ⟨fun b o h => ⟨.inl h, rfl⟩, fun _ _ => rfl, fun i hi => ?_, fun i hi => ?_, fun i et sz fz e xs hi => ?_, fun b i hGb hs => ⟨rfl, fun _ o h1 => h1.resolve_right fun h2 => ?_⟩⟩
    rotate_right
    · obtain ⟨et, sz, fz, fz', e, xs, xs', h3, _⟩ := hs
      rw [h2.1, hG] at hGb
      obtain rfl : id = i := by simpa using hGb
      rw [h] at h3; cases h3
    · by_cases e : i = id
      · subst e; rw [List.getElem?_set_self hid]; trivial
      · rw [List.getElem?_set_ne (Ne.symm e)]; exact hi
    · have : i ≠ id := by rintro rfl; rw [h] at hi; exact hi
      rw [List.getElem?_set_ne (Ne.symm this)]; exact hi
    · have : i ≠ id := by rintro rfl; rw [h] at hi; cases hi
      exact ⟨fz, e, xs, by rw [List.getElem?_set_ne (Ne.symm this)]; exact hi, Nat.le_refl _, fun _ => .inl ⟨rfl, fun b hGb => ⟨G' hGb this, rfl⟩⟩⟩
  have new : ∀ (j : Nat) u, us[j]? = some u → (g.frzBox (g.loc id) us.length).A (g.loc id) j ∧ ∃ y, w.cell? ⟨g.loc id, j, none⟩ = some y ∧ PRel w (g.frzBox (g.loc id) us.length).A y u := fun j u hj => by
    obtain ⟨y, h1, h2⟩ := hu j u hj
    exact ⟨.inr ⟨rfl, lt_of_some hj⟩, y, h1, h2.keep E.A⟩
  refine ⟨_, ⟨fun i c hi => ?_, fun i c hi j u hj => ?_, fun i y hi => ?_, fun b i hGb => ?_, fun b o hA => ?_, fun i et sz fz e xs hi => ?_, fun b hs => ?_, fun b b' i h1 h2 hs hs' => ?_⟩, E, ⟨fun b o hA => ?_, fun b i hGb => ?_, rfl, by simp⟩, new⟩
  · have e' : i ≠ id := by rintro rfl; rw [List.getElem?_set_self hid] at hi; cases hi
    rw [List.getElem?_set_ne (Ne.symm e')] at hi
    obtain ⟨h1, cur', T', h2, h3⟩ := M.box i c hi
    exact ⟨G' h1 e', cur', T', h2, h3.ext E⟩
  · by_cases e' : i = id
    · subst e'
      rw [List.getElem?_set_self hid] at hi
      obtain rfl : us = c := by simpa using hi
      exact new j u hj
    · rw [List.getElem?_set_ne (Ne.symm e')] at hi
      obtain ⟨h1, y, h2, h3⟩ := M.fbox i c hi j u hj
      exact ⟨.inl h1, y, h2, h3.keep E.A⟩
  · have e' : i ≠ id := by rintro rfl; rw [List.getElem?_set_self hid] at hi; cases hi
    rw [List.getElem?_set_ne (Ne.symm e')] at hi
    obtain ⟨h1, h2⟩ := M.iter i y hi
    exact ⟨G' h1 e', h2.at (fun b o h => ⟨.inl h, rfl⟩) E.loc (by simp) rfl⟩
  · simp only [Gh.frzBox] at hGb
    split at hGb
    · cases hGb
    · rw [List.length_set]; exact M.own b i hGb
  · rcases hA with hA | ⟨rfl, ho⟩
    · obtain ⟨h1, h2⟩ := M.imm b o hA
      refine ⟨h1, fun i hGi hs => ?_⟩
      have hne := box_apart M h hA
      simp only [Gh.frzBox] at hGi
      rw [if_neg hne] at hGi
      obtain ⟨et, sz, e, xs, h3, h4⟩ := h2 i hGi hs
      have e' : i ≠ id := by rintro rfl; rw [h] at h3; cases h3
      exact ⟨et, sz, e, xs, by rw [List.getElem?_set_ne (Ne.symm e')]; exact h3, h4⟩
    · refine ⟨hb, fun i hGi _ => ?_⟩
      simp only [Gh.frzBox, if_true] at hGi
      cases hGi
  · have e' : i ≠ id := by rintro rfl; rw [List.getElem?_set_self hid] at hi; cases hi
    rw [List.getElem?_set_ne (Ne.symm e')] at hi
    exact M.roww i et sz fz e xs hi
  · obtain ⟨i, et, sz, fz, e, xs, h3, h4⟩ := M.nsub b hs
    have e' : i ≠ id := by rintro rfl; rw [h] at h4; cases h4
    exact ⟨i, et, sz, fz, e, xs, G' h3 e', by rw [List.getElem?_set_ne (Ne.symm e')]; exact h4⟩
  · exact M.uniq b b' i (Gof h1) (Gof h2) hs hs'
  · rcases hA with hA | ⟨rfl, _⟩
    · exact .inl hA
    · exact .inr ⟨id, hG⟩
  · simp only [Gh.frzBox] at hGb
    split at hGb
    · cases hGb
    · exact hGb
def FrzOk (keep : Bool) (n : Nat) : Prop := ∀ (w : World) (g : Gh) (ob : List Ob) (v : Value) (x y : AV) (ob' : List Ob), Mem w g ob → ARel0 w g ob v x → v.oneCell' = true → frz std keep n ob x = some (y, ob') →
  ∃ g', Mem w g' ob' ∧ Ext w g ob w g' ob' ∧ ARel0 w g' ob' v y ∧ GhLe g g' ob ob' ∧ (keep = false → PRel w g'.A v y)
theorem each_sound {keep : Bool} {n : Nat} (hn : FrzOk keep n) : ∀ (cs : List AV) (vs : List Value) (w : World) (g : Gh) (ob : List Ob) (us : List AV) (ob' : List Ob), Mem w g ob → ARelC w g ob vs cs → eachM (frz std keep n) ob cs = some (us, ob') →
    ∃ g', Mem w g' ob' ∧ Ext w g ob w g' ob' ∧ ARelC w g' ob' vs us ∧ GhLe g g' ob ob' ∧ (keep = false → ∀ (j : Nat) y u, vs[j]? = some y → us[j]? = some u → PRel w g'.A y u)
  | [], vs, w, g, ob, us, ob', M, h, he => by
    obtain ⟨rfl, rfl⟩ : [] = us ∧ ob = ob' := by simpa [eachM] using he
    have hvs : vs = [] := List.eq_nil_of_length_eq_zero h.1
    subst hvs
    exact ⟨g, M, Ext.refl, h, GhLe.refl, fun _ j y u h => by simp at h⟩
  | x :: xs, vs, w, g, ob, us, ob', M, h, he => by
    cases vs with
    | nil => exact absurd h.1 (by simp)
    | cons v vs =>
      simp only [eachM] at he
      split at he
      · rename_i y ob1 h1
        split at he
        · rename_i ys ob2 h2
          obtain ⟨rfl, rfl⟩ : y :: ys = us ∧ ob2 = ob' := by simpa using he
          have hv := h.2 0 v x rfl rfl
          obtain ⟨g1, M1, E1, R1, L1, P1⟩ := hn w g ob v x y ob1 M hv.1 hv.2 h1
          have hr : ARelC w g1 ob1 vs xs := ⟨by simpa using h.1, fun j y u hy hu => ⟨(h.2 (j + 1) y u (by simpa using hy) (by simpa using hu)).1.ext E1, (h.2 (j + 1) y u (by simpa using hy) (by simpa using hu)).2⟩⟩
          obtain ⟨g2, M2, E2, R2, L2, P2⟩ := each_sound hn xs vs w g1 ob1 ys ob2 M1 hr h2
          refine ⟨g2, M2, E1.trans E2 (by rw [L1.len]; exact Nat.le_refl _), ⟨by simp [R2.1], fun j y' u hy hu => ?_⟩, L1.trans L2, fun hk j y' u hy hu => ?_⟩
          · cases j with
            | zero =>
              obtain rfl : v = y' := by simpa using hy
              obtain rfl : y = u := by simpa using hu
              exact ⟨R1.ext E2, hv.2⟩
            | succ j => exact R2.2 j y' u (by simpa using hy) (by simpa using hu)
          · cases j with
            | zero =>
              obtain rfl : v = y' := by simpa using hy
              obtain rfl : y = u := by simpa using hu
              exact (P1 hk).keep E2.A
            | succ j => exact P2 hk j y' u (by simpa using hy) (by simpa using hu)
        · cases he
      · cases he
theorem frz_ok (keep : Bool) : ∀ n, FrzOk keep n
  | 0 => fun w g ob v x y ob' M h ho he => by simp [frz] at he
  | n + 1 => fun w g ob v x y ob' M h ho he => by
    have ih := frz_ok keep n
    cases x with
    | val a =>
      obtain ⟨rfl, rfl⟩ : AV.val a = y ∧ ob = ob' := by simpa [frz] using he
      exact ⟨g, M, Ext.refl, h, GhLe.refl, fun _ => h⟩
    | kb t =>
      obtain ⟨rfl, rfl⟩ : AV.val (.bool t) = y ∧ ob = ob' := by simpa [frz] using he
      obtain rfl : v = .bool t := h
      exact ⟨g, M, Ext.refl, PRel.val _ rfl, GhLe.refl, fun _ => PRel.val _ rfl⟩
    | slc a b =>
      obtain ⟨rfl, rfl⟩ : AV.slc a b = y ∧ ob = ob' := by simpa [frz] using he
      exact ⟨g, M, Ext.refl, h, GhLe.refl, fun _ => h⟩
    | opt a =>
      obtain ⟨rfl, rfl⟩ : AV.opt a = y ∧ ob = ob' := by simpa [frz] using he
      exact ⟨g, M, Ext.refl, h, GhLe.refl, fun _ => h⟩
    | ref a =>
      obtain ⟨rfl, rfl⟩ : AV.ref a = y ∧ ob = ob' := by simpa [frz] using he
      exact ⟨g, M, Ext.refl, h, GhLe.refl, fun _ => h⟩
    | agg cs => exact h.elim
    | tup cs => exact h.elim
    | dead => simp [frz] at he
    | rptr a b c d => simp [frz] at he
    | iter a =>
      simp only [frz] at he
      split at he
      · rename_i hk; cases he; exact ⟨g, M, Ext.refl, h, GhLe.refl, fun hf => by rw [hf] at hk; cases hk⟩
      · cases he
    | clo a b c d =>
      simp only [frz] at he
      split at he
      · rename_i hk; cases he; exact ⟨g, M, Ext.refl, h, GhLe.refl, fun hf => by rw [hf] at hk; cases hk⟩
      · cases he
    | row id ep =>
      obtain ⟨_, et, sz, fz, e, xs, h1, h2, h3⟩ := h
      simp only [frz, h1] at he
      split at he
      · rename_i hep
        obtain ⟨rfl, rfl⟩ : AV.slc sz xs = y ∧ ob.set id (.row et sz true e xs) = ob' := by simpa using he
        obtain ⟨g', M', E', R', L'⟩ := freeze_row M h1 (h3 hep) (Nat.le_refl _)
        exact ⟨g', M', E', R'.to0, L', fun _ => R'⟩
      · cases he
    | rowk id ep k =>
      obtain ⟨_, et, sz, fz, e, xs, h1, h2, h3⟩ := h
      simp only [frz, h1] at he
      split at he
      · rename_i hep
        have hcut : std.cut xs 0 k = xs.take k.toNat := by simp [std]
        rw [hcut] at he
        obtain ⟨rfl, rfl⟩ : AV.slc sz (xs.take k.toNat) = y ∧ ob.set id (.row et sz true e xs) = ob' := by simpa using he
        obtain ⟨g', M', E', R', L'⟩ := freeze_row M h1 (h3 hep).2.2 (by rw [List.length_take]; omega)
        exact ⟨g', M', E', R'.to0, L', fun _ => R'⟩
      · cases he
    | box id off =>
      simp only [frz] at he
      cases keep with
      | true =>
        obtain ⟨rfl, rfl⟩ : AV.box id off = y ∧ ob = ob' := by simpa using he
        exact ⟨g, M, Ext.refl, h, GhLe.refl, fun hk => by cases hk⟩
      | false =>
        simp only [Bool.false_eq_true, if_false] at he
        obtain ⟨rfl, _⟩ := h
        split at he
        · rename_i cs hb
          obtain ⟨hG, cur, T, hh, hc⟩ := M.box id cs hb
          split at he
          · rename_i us ob1 hes
            obtain ⟨g1, M1, E1, R1, L1, P1⟩ := each_sound ih cs cur.toList w g ob us ob1 M hc hes
            split at he
            · rename_i c1 hb1
              obtain ⟨rfl, rfl⟩ : AV.ref (us.drop off) = y ∧ ob1.set id (.fbox us) = ob' := by simpa using he
              have hul : us.length = cs.length := by rw [← R1.1, hc.1]
              have hcell : ∀ (j : Nat) u, us[j]? = some u → ∃ y, w.cell? ⟨g1.loc id, j, none⟩ = some y ∧ PRel w g1.A y u := fun j u hj => by
                have hjl : j < cur.size := by have := lt_of_some hj; rw [← R1.1] at this; simpa using this
                refine ⟨cur[j], by rw [L1.loc]; simp [World.cell?, hh, hjl], P1 rfl j _ u (by simp [hjl]) hj⟩
              obtain ⟨g2, M2, E2, L2, N2⟩ := freeze_box M1 hb1 hcell
              have R : PRel w g2.A (.pointer (some ⟨g.loc id, off, none⟩)) (.ref (us.drop off)) := by
                have e1 : g1.loc id = g.loc id := by rw [L1.loc]
                refine PRel.ref _ _ _ (fun j => cur.getD (off + j) undef) (fun j u hj => ?_) (fun j u hj => ?_)
                · rw [List.getElem?_drop] at hj
                  obtain ⟨h4, y, h5, h6⟩ := N2 _ u hj
                  rw [e1] at h4 h5
                  have hjl : off + j < cur.size := by have := lt_of_some hj; rw [← R1.1] at this; simpa using this
                  refine ⟨h4, ?_⟩
                  simp [World.cell?, hh, hjl]
                · rw [List.getElem?_drop] at hj
                  obtain ⟨h4, y, h5, h6⟩ := N2 _ u hj
                  rw [e1] at h5
                  have hjl : off + j < cur.size := by have := lt_of_some hj; rw [← R1.1] at this; simpa using this
                  have h7 : cur.getD (off + j) undef = y := by
                    simp only [World.cell?, hh, Option.isSome_none, Bool.false_eq_true, if_false, Array.getElem?_eq_getElem hjl, Option.some.injEq] at h5
                    rw [Array.getD_eq_getD_getElem?, Array.getElem?_eq_getElem hjl]
                    exact h5
                  rw [h7]; exact h6
              exact ⟨g2, M2, E1.trans E2 (by rw [L1.len]; exact Nat.le_refl _), R.to0, L1.trans L2, fun _ => R⟩
            · cases he
          · cases he
        · rename_i cs hb
          obtain ⟨rfl, rfl⟩ : AV.ref (cs.drop off) = y ∧ ob = ob' := by simpa using he
          have R : PRel w g.A (.pointer (some ⟨g.loc id, off, none⟩)) (.ref (cs.drop off)) := by
            obtain ⟨l, h1, h2⟩ := list_of (q := fun j y => ∀ u, (cs.drop off)[j]? = some u → g.A (g.loc id) (off + j) ∧ w.cell? ⟨g.loc id, off + j, none⟩ = some y ∧ PRel w g.A y u) (cs.drop off).length (fun j hj => by
              have hj2 := List.getElem?_eq_getElem hj
              have hj3 := hj2
              rw [List.getElem?_drop] at hj3
              obtain ⟨h4, y, h5, h6⟩ := M.fbox id cs hb _ _ hj3
              exact ⟨y, fun u hu => by rw [hj2] at hu; cases hu; exact ⟨h4, h5, h6⟩⟩)
            have hget : ∀ (j : Nat) u, (cs.drop off)[j]? = some u → l[j]? = some (l.getD j undef) := fun j u hu => by
              have := lt_of_some hu
              rw [List.getD_eq_getElem?_getD, List.getElem?_eq_getElem (by omega)]; rfl
            exact PRel.ref _ _ _ (fun j => l.getD j undef) (fun j u hu => ⟨(h2 j _ (hget j u hu) u hu).1, (h2 j _ (hget j u hu) u hu).2.1⟩) (fun j u hu => (h2 j _ (hget j u hu) u hu).2.2)
          exact ⟨g, M, Ext.refl, R.to0, GhLe.refl, fun _ => R⟩
        · cases he
end
end Go.Proofs.YtcmjijpofkoogaaGreat
namespace Go.Proofs.YtcmjijpofkoogaaGreat
open Go.RowKit Go.Lib
section
variable {w w' : World} {g g' : Gh} {ob ob' : List Ob}
theorem frz1 {keep : Bool} {n : Nat} {v : Value} {x y : AV} (M : Mem w g ob) (h : ARel1 w g ob v x) (hl : x.live = true) (he : frz std keep n ob x = some (y, ob')) :
    ∃ g', Mem w g' ob' ∧ Ext w g ob w g' ob' ∧ ARel1 w g' ob' v y ∧ GhLe g g' ob ob' := by
  have go : ∀ {x : AV}, ARel0 w g ob v x → x.live = true → frz std keep n ob x = some (y, ob') → ∃ g', Mem w g' ob' ∧ Ext w g ob w g' ob' ∧ ARel1 w g' ob' v y ∧ GhLe g g' ob ob' := fun h hl he => by
    obtain ⟨g', h1, h2, h3, h4, _⟩ := frz_ok keep n w g ob v _ y ob' M h (h.one hl) he
    exact ⟨g', h1, h2, h3.to1, h4⟩
  cases x with
  | agg cs =>
    obtain ⟨vs, rfl, hc⟩ := h
    cases n with
    | zero => simp [frz] at he
    | succ n =>
      simp only [frz] at he
      obtain ⟨⟨us, ob1⟩, h1, h2⟩ := Option.map_eq_some_iff.1 he
      obtain ⟨rfl, rfl⟩ : AV.agg us = y ∧ ob1 = ob' := by simpa using h2
      obtain ⟨g', M', E', R', L', _⟩ := each_sound (frz_ok keep n) cs vs.toList w g ob us ob1 M hc h1
      exact ⟨g', M', E', ⟨vs, rfl, R'⟩, L'⟩
  | val a => exact go (x := .val a) h hl he
  | slc a b => exact go (x := .slc a b) h hl he
  | ref a => exact go (x := .ref a) h hl he
  | opt a => exact go (x := .opt a) h hl he
  | tup a => cases hl
  | box a b => exact go (x := .box a b) h hl he
  | row a b => exact go (x := .row a b) h hl he
  | rowk a b c => exact go (x := .rowk a b c) h hl he
  | rptr a b c d => exact go (x := .rptr a b c d) h hl he
  | kb a => exact go (x := .kb a) h hl he
  | iter a => exact go (x := .iter a) h hl he
  | clo a b c d => exact go (x := .clo a b c d) h hl he
  | dead => cases hl
def ARelL (w : World) (g : Gh) (ob : List Ob) (vs : List Value) (xs : List AV) : Prop := vs.length = xs.length ∧ ∀ (j : Nat) v x, vs[j]? = some v → xs[j]? = some x → ARel1 w g ob v x
theorem frz_live {keep : Bool} {n : Nat} {x y : AV} (he : frz std keep n ob x = some (y, ob')) : x.live = true := by
  cases n with
  | zero => simp [frz] at he
  | succ n => cases x <;> first | rfl | (simp [frz] at he; done)
theorem ARel.to1 {v : Value} {x : AV} (h : ARel w g ob v x) (hl : x.live = true) : ARel1 w g ob v x := by cases x <;> first | exact h | cases hl
theorem each_live {keep : Bool} {n : Nat} : ∀ (xs : List AV) (ob : List Ob) (ys : List AV) (ob' : List Ob), eachM (frz std keep n) ob xs = some (ys, ob') → ∀ x ∈ xs, x.live = true
  | [], _, _, _, _ => fun x h => by cases h
  | x :: xs, ob, ys, ob', he => by
    simp only [eachM] at he
    split at he
    · rename_i y ob1 h1
      split at he
      · rename_i ys' ob2 h2
        intro z hz
        cases hz with
        | head => exact frz_live h1
        | tail _ hz => exact each_live xs ob1 ys' ob2 h2 z hz
      · cases he
    · cases he
theorem frzL {keep : Bool} {n : Nat} : ∀ (xs : List AV) (vs : List Value) (g : Gh) (ob : List Ob) (ys : List AV) (ob' : List Ob), Mem w g ob → ARelL w g ob vs xs → eachM (frz std keep n) ob xs = some (ys, ob') →
    ∃ g', Mem w g' ob' ∧ Ext w g ob w g' ob' ∧ ARelL w g' ob' vs ys ∧ GhLe g g' ob ob'
  | [], vs, g, ob, ys, ob', M, h, he => by
    obtain ⟨rfl, rfl⟩ : [] = ys ∧ ob = ob' := by simpa [eachM] using he
    exact ⟨g, M, Ext.refl, h, GhLe.refl⟩
  | x :: xs, vs, g, ob, ys, ob', M, h, he => by
    cases vs with
    | nil => exact absurd h.1 (by simp)
    | cons v vs =>
      simp only [eachM] at he
      split at he
      · rename_i y ob1 h1
        split at he
        · rename_i ys' ob2 h2
          obtain ⟨rfl, rfl⟩ : y :: ys' = ys ∧ ob2 = ob' := by simpa using he
          have hv := h.2 0 v x rfl rfl
          have hl : x.live = true := frz_live h1
          obtain ⟨g1, M1, E1, R1, L1⟩ := frz1 M hv hl h1
          have hr : ARelL w g1 ob1 vs xs := ⟨by simpa using h.1, fun j y u hy hu => (h.2 (j + 1) y u (by simpa using hy) (by simpa using hu)).ext E1⟩
          obtain ⟨g2, M2, E2, R2, L2⟩ := frzL xs vs g1 ob1 ys' ob2 M1 hr h2
          refine ⟨g2, M2, E1.trans E2 (by rw [L1.len]; exact Nat.le_refl _), ⟨by simp [R2.1], fun j y' u hy hu => ?_⟩, L1.trans L2⟩
          cases j with
          | zero =>
            obtain rfl : v = y' := by simpa using hy
            obtain rfl : y = u := by simpa using hu
            exact R1.ext E2
          | succ j => exact R2.2 j y' u (by simpa using hy) (by simpa using hu)
        · cases he
      · cases he
theorem frzTop {keep : Bool} {n : Nat} {v : Value} {x y : AV} (M : Mem w g ob) (h : ARel w g ob v x) (he : frz std keep n ob x = some (y, ob')) :
    ∃ g', Mem w g' ob' ∧ Ext w g ob w g' ob' ∧ ARel w g' ob' v y ∧ GhLe g g' ob ob' := by
  obtain ⟨g', h1, h2, h3, h4⟩ := frz1 M (h.to1 (frz_live he)) (frz_live he) he
  exact ⟨g', h1, h2, h3.to, h4⟩
structure Step (w : World) (g : Gh) (ob : List Ob) (w' : World) (g' : Gh) (ob' : List Ob) : Prop where
  os : w'.os = w.os
  tape : w'.tape = w.tape
  output : w'.output = w.output
  size : w.heap.size ≤ w'.heap.size
  keep : ∀ b, b < w.heap.size → g.G b = none → w'.heap[b]? = w.heap[b]?
  own : ∀ b id, g'.G b = some id → (∃ id', g.G b = some id') ∨ w.heap.size ≤ b
  imm : ∀ b o, g'.A b o → g.A b o ∨ (∃ id, g.G b = some id) ∨ w.heap.size ≤ b
  ext : Ext w g ob w' g' ob'
  len : ob.length ≤ ob'.length
theorem Step.refl : Step w g ob w g ob := ⟨rfl, rfl, rfl, Nat.le_refl _, fun _ _ _ => rfl, fun _ _ h => .inl ⟨_, h⟩, fun _ _ h => .inl h, Ext.refl, Nat.le_refl _⟩
theorem Step.trans {w1 w2 w3 : World} {g1 g2 g3 : Gh} {o1 o2 o3 : List Ob} (h : Step w1 g1 o1 w2 g2 o2) (k : Step w2 g2 o2 w3 g3 o3) : Step w1 g1 o1 w3 g3 o3 := by
  have none2 : ∀ b, b < w1.heap.size → g1.G b = none → g2.G b = none := fun b hb hG => by
    cases h2 : g2.G b with
    | none => rfl
    | some id =>
      rcases h.own b id h2 with ⟨id', h3⟩ | h3
      · rw [hG] at h3; cases h3
      · omega
  refine ⟨k.os.trans h.os, k.tape.trans h.tape, k.output.trans h.output, Nat.le_trans h.size k.size, fun b hb hG => ?_, fun b id hG => ?_, fun b o hA => ?_, h.ext.trans k.ext h.len, Nat.le_trans h.len k.len⟩
  · exact (k.keep b (Nat.lt_of_lt_of_le hb h.size) (none2 b hb hG)).trans (h.keep b hb hG)
  · rcases k.own b id hG with ⟨id', h2⟩ | h2
    · exact h.own b id' h2
    · exact .inr (Nat.le_trans h.size h2)
  · rcases k.imm b o hA with h2 | ⟨id, h2⟩ | h2
    · exact h.imm b o h2
    · rcases h.own b id h2 with h3 | h3
      · exact .inr (.inl h3)
      · exact .inr (.inr h3)
    · exact .inr (.inr (Nat.le_trans h.size h2))
theorem Step.ghost (E : Ext w g ob w g' ob') (L : GhLe g g' ob ob') : Step w g ob w g' ob' :=
  ⟨rfl, rfl, rfl, Nat.le_refl _, fun _ _ _ => rfl, fun b id h => .inl ⟨id, L.G b id h⟩, fun b o h => (L.A b o h).imp_right .inl, E, by rw [L.len]; exact Nat.le_refl _⟩
def BCall (P : Program) (f : Nat) (args : List AV) (ob : List Ob) (res : AV) (ob' : List Ob) : Prop :=
  (∀ vs w, (callFunc f vs).run P w = .ok (.enter f vs) w) ∧
  ∀ (w : World) (g : Gh) (vs : List Value), Mem w g ob → ARelL w g ob vs args →
    Calls P f vs.toArray w fun e w' => ∃ v g', e = .returned v ∧ Mem w' g' ob' ∧ ARel w' g' ob' v res ∧ Step w g ob w' g' ob'
structure Sim (Df : List Deferred) (w0 : World) (g0 : Gh) (o0 : List Ob) (N : Nat) (s : St) (a : Act) (w : World) : Prop where
  defers : a.defers = Df
  size : a.tmps.size = N
  rel : ∃ g, Mem w g s.ob ∧ Slots w g s a ∧ Step w0 g0 o0 w g s.ob
def Ex.conv : Ex → Exit
  | .normal => .normal
  | .exit i => .exit i
  | .ret => .ret
  | .pan v => .panic [{ v, recovered := false }]
def BPan (P : Program) (f : Nat) (args : List AV) (ob : List Ob) (x : Value) : Prop :=
  (∀ vs w, (callFunc f vs).run P w = .ok (.enter f vs) w) ∧
  ∀ (w : World) (g : Gh) (vs : List Value), Mem w g ob → ARelL w g ob vs args →
    Calls P f vs.toArray w fun e w' => ∃ g' ob', e = .panicked [{ v := x, recovered := false }] ∧ Mem w' g' ob' ∧ Step w g ob w' g' ob'
def WP (Df : List Deferred) (P : Program) (w0 : World) (g0 : Gh) (o0 : List Ob) (N : Nat) (c : Code) (Q : Ex → St → Prop) (s : St) : Prop :=
  ∀ a w, Sim Df w0 g0 o0 N s a w → c.wp P (fun e a' w' => ∃ e' s', e = e'.conv ∧ (∀ v, e' = .pan v → s'.tm = []) ∧ Sim Df w0 g0 o0 N s' a' w' ∧ Q e' s') a w
def srtV : Value → Option Srt
  | .int k _ => some (.int k)
  | .bool _ => some .boo
  | .string _ => some .str
  | _ => none
def eqV : Value → Value → Bool
  | .int _ a, .int _ b => a == b
  | .bool a, .bool b => a == b
  | .string a, .string b => a.toList == b.toList
  | _, _ => false
def EqOk (P : Program) (T : Nat) (sh : List Srt) : Prop := ∀ (xs ys : List Value) (x y : Operand) (W : World), xs.map srtV = sh.map some → ys.map srtV = sh.map some →
  (eqGuard .eql T x y (.agg xs.toArray) (.agg ys.toArray)).run P W = .ok () W ∧ (eqGuard .neq T x y (.agg xs.toArray) (.agg ys.toArray)).run P W = .ok () W ∧
  (binOp .eql T (.agg xs.toArray) (.agg ys.toArray)).run P W = .ok (.bool ((xs.zip ys).all fun q => eqV q.1 q.2)) W ∧
  (binOp .neq T (.agg xs.toArray) (.agg ys.toArray)).run P W = .ok (.bool !((xs.zip ys).all fun q => eqV q.1 q.2)) W
def KeyOk (P : Program) (T : Nat) (sh : List Srt) : Prop := (∀ (xs : List Value) (b : Bool) (W : World), xs.map srtV = sh.map some → (Instr.checkKey b 10000 T (.agg xs.toArray)).run P W = .ok () W) ∧
  ∀ (xs ys : List Value) (W : World), xs.map srtV = sh.map some → ys.map srtV = sh.map some → (Op.equal T (.agg xs.toArray) (.agg ys.toArray)).run P W = .ok ((xs.zip ys).all fun q => eqV q.1 q.2) W
def lookI (kc : AV) : Nat → List (AV × AV) → Option (Option (Nat × AV))
  | _, [] => some none
  | j, (k, v) :: r => if aggB k = aggB kc then (match eqCs std kc.cells k.cells with
    | some (_, b) => if b = true then some (some (j, v)) else lookI kc (j + 1) r
    | none => none) else none
def Tree.ok (Df : List Deferred) (P : Program) (w0 : World) (g0 : Gh) (o0 : List Ob) (N : Nat) (Q : Ex → St → Prop) : Tree → Prop
  | .leaf e s => Q e s
  | .br c t f => (c = true → t.ok Df P w0 g0 o0 N Q) ∧ (c = false → f.ok Df P w0 g0 o0 N Q)
  | .need q t => q ∧ t.ok Df P w0 g0 o0 N Q
  | .call f args ob res ob' t => BCall P f args ob res ob' ∧ t.ok Df P w0 g0 o0 N Q
  | .pan f args ob v => BPan P f args ob v ∧ ∀ ob', Q (.pan v) ⟨[], ob'⟩
  | .loop body s K => WP Df P w0 g0 o0 N (.loop body) (fun e s' => (K e s').ok Df P w0 g0 o0 N Q) s
  | .both a b => a.ok Df P w0 g0 o0 N Q ∧ b.ok Df P w0 g0 o0 N Q
  | .either q a b => (q → a.ok Df P w0 g0 o0 N Q) ∧ b.ok Df P w0 g0 o0 N Q
  | .ask T sh t => EqOk P T sh ∧ t.ok Df P w0 g0 o0 N Q
  | .askK T sh t => KeyOk P T sh ∧ t.ok Df P w0 g0 o0 N Q
  | .nxt q es seen f t => q ∧ (∀ j p, es[j]? = some p → j ∉ seen → (f j p).ok Df P w0 g0 o0 N Q) ∧ ((∀ j, j < es.length → j ∈ seen) → t.ok Df P w0 g0 o0 N Q)
  | .prop q t => q ∧ t.ok Df P w0 g0 o0 N Q
  | .look k es f n => match lookI k 0 es with
    | some (some (j, v)) => (f j v).ok Df P w0 g0 o0 N Q
    | some none => n.ok Df P w0 g0 o0 N Q
    | none => False
  | .stuck _ => False
end
end Go.Proofs.YtcmjijpofkoogaaGreat
namespace Go.Proofs.YtcmjijpofkoogaaGreat
open Go.RowKit Go.Lib
abbrev Eqs := List (AV × AV)
def both : Option Eqs → Option Eqs → Option Eqs
  | some a, some b => some (a ++ b)
  | _, _ => none
def ren0 (ob ob' : List Ob) (ρ : List (Option Nat)) (x x' : AV) : Option Eqs :=
  match x' with
  | .dead => some []
  | .box j off => match ρ[j]? with
    | some (some i) => some [(x, .box i off)]
    | _ => none
  | .iter j => match ρ[j]? with
    | some (some i) => some [(x, .iter i)]
    | _ => none
  | .clo f j off t => match ρ[j]? with
    | some (some i) => some [(x, .clo f i off t)]
    | _ => none
  | .row j e' => match ob'[j]? with
    | some (.row _ _ _ e2 xs) => if e2 = e' then (match ρ[j]? with
      | some (some i) => (match ob[i]? with
        | some (.row _ _ _ e _) => some [(x, .row i e)]
        | _ => none)
      | some none => some [(x, .val (.slice none 0 0)), (.slc 0 xs, .slc 0 [])]
      | none => none) else none
    | _ => none
  | .val (.bool b) => match x with
    | .kb c => some [(.kb c, .kb b)]
    | _ => some [(x, .val (.bool b))]
  | .val v => some [(x, .val v)]
  | .slc sz xs => some [(x, .slc sz xs)]
  | .ref cs => some [(x, .ref cs)]
  | .opt y => some [(x, .opt y)]
  | .kb b => some [(x, .kb b)]
  | _ => none
def renL (ob ob' : List Ob) (ρ : List (Option Nat)) : List AV → List AV → Option Eqs
  | [], [] => some []
  | x :: r, x' :: r' => both (ren0 ob ob' ρ x x') (renL ob ob' ρ r r')
  | _, _ => none
def ren1 (ob ob' : List Ob) (ρ : List (Option Nat)) (x x' : AV) : Option Eqs :=
  match x' with
  | .agg cs' => match x with
    | .agg cs => renL ob ob' ρ cs cs'
    | _ => none
  | _ => ren0 ob ob' ρ x x'
def renT (s s' : St) (ρ : List (Option Nat)) : List (Nat × AV) → Option Eqs
  | [] => some []
  | (t, x') :: r => both (ren1 s.ob s'.ob ρ (lk t s.tm) x') (renT s s' ρ r)
def flatE : List (AV × AV) → List AV
  | [] => []
  | (a, b) :: r => a :: b :: flatE r
theorem flatE_inj : ∀ {l m : List (AV × AV)}, flatE l = flatE m → l = m
  | [], [], _ => rfl
  | [], (_, _) :: _, h => by cases h
  | (_, _) :: _, [], h => by cases h
  | (a, b) :: r, (c, d) :: q, h => by
    simp only [flatE, List.cons.injEq] at h
    rw [h.1, h.2.1, flatE_inj h.2.2]
theorem boxes_inj : ∀ {l m : List Nat}, l.map (AV.box 0) = m.map (AV.box 0) → l = m
  | [], [], _ => rfl
  | [], _ :: _, h => by cases h
  | _ :: _, [], h => by cases h
  | a :: r, b :: q, h => by
    simp only [List.map_cons, List.cons.injEq, AV.box.injEq] at h
    rw [h.1.2, boxes_inj h.2]
def renOb (ob ob' : List Ob) (ρ : List (Option Nat)) (i : Option Nat) (o' : Ob) : Option Eqs :=
  match i with
  | some i => match o', ob[i]? with
    | .box cs', some (.box cs) => renL ob ob' ρ cs cs'
    | .fbox cs', some (.fbox cs) => some [(.slc 0 cs, .slc 0 cs')]
    | .row et sz fz _ xs', some (.row et2 sz2 fz2 _ xs) => if et = et2 ∧ sz = sz2 ∧ (fz2 = true → fz = true) then some [(.slc 0 xs, .slc 0 xs')] else none
    | .iter (.str b p), some (.iter (.str b2 p2)) => some [(.val (.string b2), .val (.string b)), (.box 0 p2, .box 0 p)]
    | .iter (.map es), some (.iter (.map es2)) => some [(.tup (flatE es2), .tup (flatE es))]
    | .iter (.mit m es sn none), some (.iter (.mit m2 es2 sn2 _)) => if ρ[m]? = some (some m2) then some [(.tup (flatE es2), .tup (flatE es)), (.tup (sn2.map (AV.box 0)), .tup (sn.map (AV.box 0)))] else none
    | _, _ => none
  | none => match o' with
    | .row _ sz fz _ xs => if 0 < sz ∧ fz = false then some [(.slc 0 xs, .slc 0 [])] else none
    | _ => none
def renOs (ob ob' : List Ob) (ρ : List (Option Nat)) : List (Option Nat) → List Ob → Option Eqs
  | [], [] => some []
  | i :: r, o :: r' => both (renOb ob ob' ρ i o) (renOs ob ob' ρ r r')
  | _, _ => none
def headR (o0 ob ob' : List Ob) (ρ : List (Option Nat)) : Bool := (List.range o0.length).all fun j => ρ[j]? == some (some j) && (match o0[j]?, ob[j]?, ob'[j]? with
  | some (.row _ _ _ e0 _), some (.row _ _ _ e _), some (.row _ _ _ e' _) => e == e' || decide (e0 < e')
  | _, _, _ => true)
def seen (o0 : List Ob) (ρ : List (Option Nat)) (s s' : St) : Option Eqs :=
  if onceR ρ = true ∧ headR o0 s.ob s'.ob ρ = true ∧ o0.length ≤ ρ.length then both (renT s s' ρ s'.tm) (renOs s.ob s'.ob ρ ρ s'.ob) else none
def AllEq : Eqs → Prop
  | [] => True
  | (a, b) :: r => a = b ∧ AllEq r
theorem allEq_append {a b : Eqs} : AllEq (a ++ b) ↔ AllEq a ∧ AllEq b := by
  induction a with
  | nil => simp [AllEq]
  | cons x r ih => obtain ⟨u, v⟩ := x; simp [AllEq, ih, and_assoc]
theorem both_some {x y : Option Eqs} {l : Eqs} (h : both x y = some l) (hl : AllEq l) : (∃ a, x = some a ∧ AllEq a) ∧ ∃ b, y = some b ∧ AllEq b := by
  cases x with
  | none => cases h
  | some a =>
    cases y with
    | none => cases h
    | some b =>
      obtain rfl : a ++ b = l := by simpa [both] using h
      exact ⟨⟨a, rfl, (allEq_append.1 hl).1⟩, b, rfl, (allEq_append.1 hl).2⟩
def Gh.ren (g : Gh) (ρ : List (Option Nat)) : Gh := ⟨g.A, fun b => (g.G b).bind (invR ρ), fun j => match ρ[j]? with | some (some i) => g.loc i | _ => 0, fun b => g.sub b && ((g.G b).bind (invR ρ)).isSome⟩
section
variable {w : World} {g : Gh} {ob ob' : List Ob} {ρ : List (Option Nat)}
theorem invR_get {i j : Nat} (h : invR ρ i = some j) : ρ[j]? = some (some i) := by
  have := List.find?_some h
  simpa using this
theorem onceR_get (h : onceR ρ = true) {i j : Nat} (hj : ρ[j]? = some (some i)) : invR ρ i = some j := by
  have := List.all_eq_true.1 h j (List.mem_range.2 (lt_of_some hj))
  rw [hj] at this
  simpa using this
theorem ren_loc {i j : Nat} (hj : ρ[j]? = some (some i)) : (g.ren ρ).loc j = g.loc i := by simp [Gh.ren, hj]
theorem ren_G (h : onceR ρ = true) {i j b : Nat} (hj : ρ[j]? = some (some i)) (hG : g.G b = some i) : (g.ren ρ).G b = some j := by
  simp [Gh.ren, hG, onceR_get h hj]
theorem ren_Gof {j b : Nat} (hG : (g.ren ρ).G b = some j) : ∃ i, ρ[j]? = some (some i) ∧ g.G b = some i := by
  simp only [Gh.ren, Option.bind_eq_some_iff] at hG
  obtain ⟨i, h1, h2⟩ := hG
  exact ⟨i, invR_get h2, h1⟩
theorem ren_sub (h : onceR ρ = true) {i j b : Nat} (hj : ρ[j]? = some (some i)) (hG : g.G b = some i) : (g.ren ρ).sub b = g.sub b := by
  simp [Gh.ren, hG, onceR_get h hj]
theorem renOs_get : ∀ (r : List (Option Nat)) (os : List Ob) (l : Eqs), renOs ob ob' ρ r os = some l → AllEq l → r.length = os.length ∧ ∀ (j : Nat) i o, r[j]? = some i → os[j]? = some o → ∃ l, renOb ob ob' ρ i o = some l ∧ AllEq l
  | [], [], _, _, _ => ⟨rfl, fun j i o h => by simp at h⟩
  | [], _ :: _, _, h, _ => by cases h
  | _ :: _, [], _, h, _ => by cases h
  | i :: r, o :: os, l, h, hl => by
    obtain ⟨h1, b, h2, hb⟩ := both_some h hl
    obtain ⟨hn, ih⟩ := renOs_get r os b h2 hb
    refine ⟨by simp [hn], fun j i' o' hi ho => ?_⟩
    cases j with
    | zero =>
      obtain rfl : i = i' := by simpa using hi
      obtain rfl : o = o' := by simpa using ho
      exact h1
    | succ j => exact ih j i' o' (by simpa using hi) (by simpa using ho)
theorem renL_get : ∀ (r r' : List AV) (l : Eqs), renL ob ob' ρ r r' = some l → AllEq l → r.length = r'.length ∧ ∀ (j : Nat) x x', r[j]? = some x → r'[j]? = some x' → ∃ l, ren0 ob ob' ρ x x' = some l ∧ AllEq l
  | [], [], _, _, _ => ⟨rfl, fun j i o h => by simp at h⟩
  | [], _ :: _, _, h, _ => by cases h
  | _ :: _, [], _, h, _ => by cases h
  | i :: r, o :: os, l, h, hl => by
    obtain ⟨h1, b, h2, hb⟩ := both_some h hl
    obtain ⟨hn, ih⟩ := renL_get r os b h2 hb
    refine ⟨by simp [hn], fun j i' o' hi ho => ?_⟩
    cases j with
    | zero =>
      obtain rfl : i = i' := by simpa using hi
      obtain rfl : o = o' := by simpa using ho
      exact h1
    | succ j => exact ih j i' o' (by simpa using hi) (by simpa using ho)
def Fits (ob ob' : List Ob) (ρ : List (Option Nat)) : Prop := ρ.length = ob'.length ∧ ∀ (j : Nat) i o, ρ[j]? = some i → ob'[j]? = some o → ∃ l, renOb ob ob' ρ i o = some l ∧ AllEq l
theorem Fits.at_ (h : Fits ob ob' ρ) {i j : Nat} (hj : ρ[j]? = some (some i)) : ∃ o, ob'[j]? = some o ∧ ∃ l, renOb ob ob' ρ (some i) o = some l ∧ AllEq l := by
  have hl : j < ob'.length := h.1 ▸ lt_of_some hj
  exact ⟨_, List.getElem?_eq_getElem hl, h.2 j _ _ hj (List.getElem?_eq_getElem hl)⟩
theorem Fits.isB (h : Fits ob ob' ρ) {i j : Nat} (hj : ρ[j]? = some (some i)) (hb : isBox ob[i]?) : isBox ob'[j]? := by
  obtain ⟨o, ho', l, h1, _⟩ := h.at_ hj
  rw [ho']
  cases hob : ob[i]? with
  | none => rw [hob] at hb; exact hb.elim
  | some q =>
    rw [hob] at hb
    cases q <;> first | exact hb.elim | (cases o <;> first | trivial | (simp [renOb, hob] at h1; done))
theorem Fits.isI (h : Fits ob ob' ρ) {k : Bool} {i j : Nat} (hj : ρ[j]? = some (some i)) (hb : isIt k ob[i]?) : isIt k ob'[j]? := by
  obtain ⟨o, ho', l, h1, _⟩ := h.at_ hj
  rw [ho']
  cases hob : ob[i]? with
  | none => rw [hob] at hb; exact hb.elim
  | some q =>
    rw [hob] at hb
    cases q with
    | iter y => cases y <;> (cases o with
      | iter z => cases z <;> first | exact hb | (simp [renOb, hob] at h1; done)
      | _ => simp [renOb, hob] at h1)
    | _ => exact hb.elim
theorem Fits.row (h : Fits ob ob' ρ) {i j et sz e : Nat} {fz : Bool} {xs : List AV} (hj : ρ[j]? = some (some i)) (hb : ob[i]? = some (.row et sz fz e xs)) : ∃ fz' e', ob'[j]? = some (.row et sz fz' e' xs) ∧ (fz = true → fz' = true) := by
  have hl : j < ob'.length := h.1 ▸ lt_of_some hj
  obtain ⟨l, h1, h2⟩ := h.2 j _ _ hj (List.getElem?_eq_getElem hl)
  rw [List.getElem?_eq_getElem hl]
  cases ho : ob'[j] with
  | row et' sz' fz' e' xs' =>
    simp only [renOb, ho, hb] at h1
    split at h1
    · rename_i hk
      obtain ⟨rfl, rfl, hk⟩ := hk
      cases h1
      obtain ⟨h3, _⟩ := h2
      cases h3
      exact ⟨fz', e', rfl, hk⟩
    · cases h1
  | _ => simp [renOb, ho, hb] at h1
theorem ren0_rel (hF : Fits ob ob' ρ) (ho : onceR ρ = true) {v : Value} {x x' : AV} {l : Eqs} (h : ARel0 w g ob v x) (he : ren0 ob ob' ρ x x' = some l) (hl : AllEq l) : ARel0 w (g.ren ρ) ob' v x' := by
  have one : ∀ y, some [(x, y)] = some l → x = y := fun y hy => by cases hy; exact hl.1
  cases x' with
  | dead => trivial
  | box j off =>
    simp only [ren0] at he
    split at he
    · rename_i i hj
      cases one _ he
      exact ⟨by rw [ren_loc hj]; exact h.1, hF.isB hj h.2⟩
    · cases he
  | iter j =>
    simp only [ren0] at he
    split at he
    · rename_i i hj
      cases one _ he
      obtain ⟨k, h1, h2⟩ := h
      exact ⟨k, by rw [ren_loc hj]; exact h1, hF.isI hj h2⟩
    · cases he
  | clo f j off t =>
    simp only [ren0] at he
    split at he
    · rename_i i hj
      cases one _ he
      exact ⟨by rw [ren_loc hj]; exact h.1, hF.isB hj h.2⟩
    · cases he
  | row j e' =>
    simp only [ren0] at he
    split at he
    · rename_i et' sz' fz' e2 xs' hob'
      split at he
      · rename_i hee
        subst hee
        split at he
        · rename_i i hj
          split at he
          · rename_i et sz fz e xs hob
            cases one _ he
            obtain ⟨h1, et3, sz3, fz3, e3, xs3, h2, h3, h4⟩ := h
            rw [hob] at h2; cases h2
            obtain ⟨fz4, e4, h5, h6⟩ := hF.row hj hob
            rw [hob'] at h5; cases h5
            refine ⟨h1, _, _, _, _, _, hob', Nat.le_refl _, fun _ => ?_⟩
            obtain ⟨ys, h7, h8, h9, h10, h11⟩ := h4 rfl
            exact ⟨ys, h7, fun b hb => ren_G ho hj (h8 b hb), h9, h10, h11.ext h8 fun b hb => ⟨ren_G ho hj hb, ren_sub ho hj hb, fun _ => ⟨rfl, fun _ h => h⟩⟩⟩
          · cases he
        · rename_i hj
          cases he
          obtain ⟨h1, h2, _⟩ := hl
          subst h1
          cases h2
          cases (show v = _ from ARel.valEq (g := g) (w := w) (ob := ob) h)
          refine ⟨rfl, _, _, _, _, _, hob', Nat.le_refl _, fun _ => ⟨[], World.ownsRow_nil _ _ _ _, (fun b h => by cases h), Alike.nil, (fun x h => by cases h), (fun b h => by cases h), (fun _ j y h => by simp at h)⟩⟩
        · cases he
      · cases he
    · cases he
  | val u =>
    have gen : x = .val u → ARel0 w (g.ren ρ) ob' v (.val u) := fun e => by subst e; exact h
    cases u with
    | bool b =>
      simp only [ren0] at he
      split at he
      · rename_i c
        cases he
        obtain ⟨h1, _⟩ := hl
        cases h1
        have e : v = .bool b := h
        subst e
        exact PRel.val _ rfl
      · exact gen (one _ he)
    | _ => exact gen (one _ he)
  | slc sz xs => cases one _ he; exact h
  | ref cs => cases one _ he; exact h
  | opt y => cases one _ he; exact h
  | kb b => cases one _ he; exact h
  | _ => cases he
theorem renL_rel (hF : Fits ob ob' ρ) (ho : onceR ρ = true) {vs : List Value} {cs cs' : List AV} {l : Eqs} (h : ARelC w g ob vs cs) (he : renL ob ob' ρ cs cs' = some l) (hl : AllEq l) : ARelC w (g.ren ρ) ob' vs cs' := by
  obtain ⟨hn, hg⟩ := renL_get _ _ _ he hl
  refine ⟨by rw [h.1, hn], fun j y u hy hu => ?_⟩
  have hj : j < cs.length := by rw [hn]; exact lt_of_some hu
  obtain ⟨l', h1, h2⟩ := hg j _ _ (List.getElem?_eq_getElem hj) hu
  obtain ⟨h3, h4⟩ := h.2 j y _ hy (List.getElem?_eq_getElem hj)
  exact ⟨ren0_rel hF ho h3 h1 h2, h4⟩
theorem ren0_flat {x x' : AV} {l : Eqs} (he : ren0 ob ob' ρ x x' = some l) (hl : AllEq l) : x' = .dead ∨ ((∀ cs, x ≠ .agg cs) ∧ ∀ cs, x ≠ .tup cs) := by
  have one : ∀ y, some [(x, y)] = some l → x = y := fun y hy => by cases hy; exact hl.1
  have fin : ∀ y, x = y → ((∀ cs, y ≠ .agg cs) ∧ ∀ cs, y ≠ .tup cs) → x' = .dead ∨ ((∀ cs, x ≠ .agg cs) ∧ ∀ cs, x ≠ .tup cs) := fun y h hy => .inr (h ▸ hy)
  cases x' with
  | dead => exact .inl rfl
  | box j off =>
    simp only [ren0] at he
    split at he
    · exact fin _ (one _ he) ⟨(fun cs h => by cases h), (fun cs h => by cases h)⟩
    · cases he
  | iter j =>
    simp only [ren0] at he
    split at he
    · exact fin _ (one _ he) ⟨(fun cs h => by cases h), (fun cs h => by cases h)⟩
    · cases he
  | clo f j off t =>
    simp only [ren0] at he
    split at he
    · exact fin _ (one _ he) ⟨(fun cs h => by cases h), (fun cs h => by cases h)⟩
    · cases he
  | row j e' =>
    simp only [ren0] at he
    split at he
    · split at he
      · split at he
        · split at he
          · exact fin _ (one _ he) ⟨(fun cs h => by cases h), (fun cs h => by cases h)⟩
          · cases he
        · cases he
          exact fin _ hl.1 ⟨(fun cs h => by cases h), (fun cs h => by cases h)⟩
        · cases he
      · cases he
    · cases he
  | val u =>
    cases u with
    | bool b =>
      simp only [ren0] at he
      split at he
      · exact .inr ⟨(fun cs h => by cases h), (fun cs h => by cases h)⟩
      · exact fin _ (one _ he) ⟨(fun cs h => by cases h), (fun cs h => by cases h)⟩
    | _ => exact fin _ (one _ he) ⟨(fun cs h => by cases h), (fun cs h => by cases h)⟩
  | slc sz xs => exact fin _ (one _ he) ⟨(fun cs h => by cases h), (fun cs h => by cases h)⟩
  | ref cs => exact fin _ (one _ he) ⟨(fun cs h => by cases h), (fun cs h => by cases h)⟩
  | opt y => exact fin _ (one _ he) ⟨(fun cs h => by cases h), (fun cs h => by cases h)⟩
  | kb b => exact fin _ (one _ he) ⟨(fun cs h => by cases h), (fun cs h => by cases h)⟩
  | _ => cases he
theorem ren1_rel (hF : Fits ob ob' ρ) (ho : onceR ρ = true) {v : Value} {x x' : AV} {l : Eqs} (h : ARel w g ob v x) (he : ren1 ob ob' ρ x x' = some l) (hl : AllEq l) : ARel w (g.ren ρ) ob' v x' := by
  have gen : ren0 ob ob' ρ x x' = some l → ARel w (g.ren ρ) ob' v x' := fun he => by
    have hx : ARel0 w g ob v x ∨ x' = .dead := by
      rcases ren0_flat he hl with h1 | ⟨h1, h2⟩
      · exact .inr h1
      · left
        cases x <;> first | exact h | exact absurd rfl (h1 _) | exact absurd rfl (h2 _)
    rcases hx with hx | rfl
    · exact (ren0_rel hF ho hx he hl).to
    · trivial
  cases x' with
  | agg cs' =>
    simp only [ren1] at he
    split at he
    · obtain ⟨vs, rfl, hc⟩ := h
      exact ⟨vs, rfl, renL_rel hF ho hc he hl⟩
    · cases he
  | _ => exact gen he
theorem Mem.ren (M : Mem w g ob) (hF : Fits ob ob' ρ) (ho : onceR ρ = true) : Mem w (g.ren ρ) ob' := by
  have get : ∀ (j : Nat) o, ob'[j]? = some o → ∃ i, ρ[j]? = some i ∧ ∃ l, renOb ob ob' ρ i o = some l ∧ AllEq l := fun j o h => by
    have hj : j < ρ.length := hF.1 ▸ lt_of_some h
    exact ⟨_, List.getElem?_eq_getElem hj, hF.2 j _ o (List.getElem?_eq_getElem hj) h⟩
  refine ⟨fun j cs' h => ?_, fun j cs' h k u hk => ?_, fun j y h => ?_, fun b j h => ?_, fun b o hA => ⟨(M.imm b o hA).1, fun j h hs => ?_⟩, fun j et sz fz e xs h => ?_, fun b hs => ?_, fun b b' j h1 h2 hs hs' => ?_⟩
  · obtain ⟨i, hi, l, h1, h2⟩ := get j _ h
    cases i with
    | none => cases h1
    | some i =>
      simp only [renOb] at h1
      split at h1 <;> first | (rename_i heq _; cases heq; done) | skip
      · rename_i cs2 cs heq hob
        cases heq
        obtain ⟨hG, cur, T, h3, h4⟩ := M.box i cs hob
        exact ⟨by rw [ren_loc hi]; exact ren_G ho hi hG, cur, T, by rw [ren_loc hi]; exact h3, renL_rel hF ho h4 h1 h2⟩
      · cases h1
  · obtain ⟨i, hi, l, h1, h2⟩ := get j _ h
    cases i with
    | none => cases h1
    | some i =>
      simp only [renOb] at h1
      split at h1 <;> first | (rename_i heq _; cases heq; done) | skip
      · rename_i cs2 cs heq hob
        cases heq
        cases h1
        obtain ⟨h3, _⟩ := h2
        cases h3
        have := M.fbox i _ hob k u hk
        rw [ren_loc hi]
        exact this
      · cases h1
  · obtain ⟨i, hi, l, h1, h2⟩ := get j _ h
    cases i with
    | none => cases h1
    | some i =>
      simp only [renOb] at h1
      split at h1 <;> first | (rename_i heq _; cases heq; done) | skip
      · rename_i heq hob
        cases heq
        cases h1
        obtain ⟨h3, h4, _⟩ := h2
        cases h3
        cases h4
        obtain ⟨hG, h5⟩ := M.iter i _ hob
        exact ⟨by rw [ren_loc hi]; exact ren_G ho hi hG, by rw [ren_loc hi]; exact h5⟩
      · rename_i heq hob
        cases heq
        cases h1
        obtain ⟨h3, _⟩ := h2
        obtain rfl := flatE_inj (AV.tup.inj h3)
        obtain ⟨hG, h5⟩ := M.iter i _ hob
        exact ⟨by rw [ren_loc hi]; exact ren_G ho hi hG, by rw [ren_loc hi]; exact h5⟩
      · rename_i heq hob
        cases heq
        split at h1
        · rename_i hm
          cases h1
          obtain ⟨h3, h4, _⟩ := h2
          obtain rfl := flatE_inj (AV.tup.inj h3)
          obtain rfl := boxes_inj (AV.tup.inj h4)
          obtain ⟨hG, h5, sn', h6, h7, _⟩ := M.iter i _ hob
          exact ⟨by rw [ren_loc hi]; exact ren_G ho hi hG, hF.1 ▸ lt_of_some hm, sn', by rw [ren_loc hi, ren_loc hm]; exact h6, h7, fun _ _ h => by cases h⟩
        · cases h1
      · cases h1
  · obtain ⟨i, hi, hG⟩ := ren_Gof h
    exact ⟨(M.own b i hG).1, hF.1 ▸ lt_of_some hi⟩
  · obtain ⟨i, hi, hG⟩ := ren_Gof h
    obtain ⟨et, sz, e, xs, h1, h2⟩ := (M.imm b o hA).2 i hG (by rw [← ren_sub ho hi hG]; exact hs)
    obtain ⟨fz', e', h3, h4⟩ := hF.row hi h1
    obtain rfl := h4 rfl
    exact ⟨et, sz, e', xs, h3, h2⟩
  · obtain ⟨i, hi, l, h1, h2⟩ := get j _ h
    cases i with
    | none =>
      simp only [renOb] at h1
      split at h1
      · rename_i hk
        cases h1
        obtain ⟨h3, _⟩ := h2
        cases h3
        exact ⟨hk.1, fun x h => by cases h⟩
      · cases h1
    | some i =>
      simp only [renOb] at h1
      split at h1 <;> first | (rename_i heq _; cases heq; done) | skip
      · rename_i heq hob
        cases heq
        split at h1
        · rename_i hk
          obtain ⟨rfl, rfl, _⟩ := hk
          cases h1
          obtain ⟨h3, _⟩ := h2
          cases h3
          exact M.roww i _ _ _ _ _ hob
        · cases h1
      · cases h1
  · simp only [Gh.ren, Bool.and_eq_true] at hs
    obtain ⟨j, hj⟩ := Option.isSome_iff_exists.1 hs.2
    obtain ⟨i, et, sz, fz, e, xs, h1, h2⟩ := M.nsub b hs.1
    obtain ⟨i', hi, hG⟩ := ren_Gof (g := g) (ρ := ρ) hj
    rw [h1] at hG
    obtain rfl : i = i' := by simpa using hG
    obtain ⟨fz', e', h3, _⟩ := hF.row hi h2
    exact ⟨j, _, _, _, _, _, hj, h3⟩
  · obtain ⟨i, hi, hG⟩ := ren_Gof h1
    obtain ⟨i', hi', hG'⟩ := ren_Gof h2
    obtain rfl : i = i' := by
      have := hi.symm.trans hi'
      simpa using this
    exact M.uniq b b' i hG hG' (by rw [← ren_sub ho hi hG]; exact hs) (by rw [← ren_sub ho hi' hG']; exact hs')
end
end Go.Proofs.YtcmjijpofkoogaaGreat
namespace Go.Proofs.YtcmjijpofkoogaaGreat
open Go.RowKit Go.Lib
section
variable {w w' : World} {g g' : Gh} {ob ob' : List Ob}
theorem Step.new (M : Mem w g ob) (o : Obj) (x : Ob) : Step w g ob (w.alloc o) (g.new w ob) (ob ++ [x]) := by
  refine ⟨rfl, rfl, rfl, by simp, fun b hb _ => heap_old hb, fun b id hG => ?_, fun b o h => .inl h, Ext.new M o x, by simp⟩
  simp only [Gh.new] at hG
  split at hG
  · rename_i h; exact .inr (by omega)
  · exact .inl ⟨id, hG⟩
theorem setCells_rest (b : Nat) : ∀ (vs : List Value) (o : Nat) (W : World), (W.setCells b o vs).os = W.os ∧ (W.setCells b o vs).tape = W.tape ∧ (W.setCells b o vs).output = W.output
  | [], _, _ => ⟨rfl, rfl, rfl⟩
  | v :: r, o, W => setCells_rest b r (o + 1) (W.setCell ⟨b, o, none⟩ v)
theorem Step.store (M : Mem w g ob) {id : Nat} {cs : List AV} (h : ob[id]? = some (.box cs)) (off : Nat) (vs : List Value) (us : List AV) : Step w g ob (w.setCells (g.loc id) off vs) g (ob.set id (.box us)) := by
  refine ⟨?_, ?_, ?_, by rw [size_setCells]; exact Nat.le_refl _, fun b hb hG => ?_, fun b id hG => .inl ⟨id, hG⟩, fun b o h => .inl h, Ext.store M h off vs us, by simp⟩
  · exact (setCells_rest _ _ _ _).1
  · exact (setCells_rest _ _ _ _).2.1
  · exact (setCells_rest _ _ _ _).2.2
  · have hG' := (M.box id cs h).1
    exact cell_setCells (k := 0) (fun e => by rw [e, hG'] at hG; cases hG)
theorem Step.immNew (M : Mem w g ob) (hb : Below w.heap.size w w') : Step w g ob w' (g.imm w w') ob :=
  ⟨hb.os, hb.tape, hb.output, hb.size, fun b h _ => hb.block b h, fun b id hG => .inl ⟨id, hG⟩, fun b o h => by
    rcases h with h | ⟨h, _⟩
    · exact .inl h
    · exact .inr (.inr h), Ext.immNew M hb, Nat.le_refl _⟩
theorem Step.grow (M : Mem w g ob) {id et sz ep : Nat} {fz fz' : Bool} {xs xs' : List AV} (h : ob[id]? = some (.row et sz fz ep xs))
    {row vb : Option Nat} (hg : w.grownBy w' row) (hrow : ∀ b, row = some b → g.G b = some id) (hvb : ∀ b, vb = some b → row = some b ∨ (w.heap.size ≤ b ∧ b < w'.heap.size)) (E : Ext w g ob w' (g.grow id vb) (ob.set id (.row et sz fz' (ep + 1) xs'))) :
    Step w g ob w' (g.grow id vb) (ob.set id (.row et sz fz' (ep + 1) xs')) :=
  ⟨hg.os, hg.tape, hg.output, hg.size, fun b hb hG => hg.block b hb (fun e => by rw [hrow b e.symm] at hG; cases hG), fun b i hG => by
    rcases Gh.grow_of hG with ⟨h1, _⟩ | ⟨h1, _⟩
    · rcases hvb b h1 with h2 | h2
      · exact .inl ⟨_, hrow b h2⟩
      · exact .inr h2.1
    · exact .inl ⟨i, h1⟩, fun b o h => .inl h, E, by simp⟩
end
section
variable {w : World} {g : Gh} {ob : List Ob}
theorem Ext.reRow {id et sz e : Nat} {fz : Bool} {xs : List AV} (h : ob[id]? = some (.row et sz fz e xs)) (fz' : Bool) (xs' : List AV) : Ext w g ob w g (ob.set id (.row et sz fz' (e + 1) xs')) := by
  have hid := lt_of_some h
  refine ⟨fun b o h => ⟨h, rfl⟩, fun _ _ => rfl, fun i hi => ?_, fun i hi => ?_, fun i et' sz' fz2 e2 xs2 hi => ?_, fun _ _ _ _ => ⟨rfl, fun _ _ h => h⟩⟩
  · have : i ≠ id := by rintro rfl; rw [h] at hi; exact hi
    rw [List.getElem?_set_ne (Ne.symm this)]; exact hi
  · have : i ≠ id := by rintro rfl; rw [h] at hi; exact hi
    rw [List.getElem?_set_ne (Ne.symm this)]; exact hi
  · by_cases e' : i = id
    · subst e'
      rw [h] at hi
      cases hi
      exact ⟨fz', e + 1, xs', List.getElem?_set_self hid, by omega, fun he => by omega⟩
    · exact ⟨fz2, e2, xs2, by rw [List.getElem?_set_ne (Ne.symm e')]; exact hi, Nat.le_refl _, fun _ => .inl ⟨rfl, fun b hG => ⟨hG, rfl⟩⟩⟩
theorem Mem.reRow (M : Mem w g ob) {id et sz e : Nat} {xs : List AV} (h : ob[id]? = some (.row et sz false e xs)) {xs' : List AV} (hw : ∀ x ∈ xs', x.cells.length = sz) : Mem w g (ob.set id (.row et sz false (e + 1) xs')) := by
  have hid := lt_of_some h
  have E := Ext.reRow (w := w) (g := g) h false xs'
  refine ⟨fun i cs hi => ?_, fun i cs hi j u hj => ?_, fun i y hi => ?_, fun b i hG => ⟨(M.own b i hG).1, by rw [List.length_set]; exact (M.own b i hG).2⟩, fun b o hA => ⟨(M.imm b o hA).1, fun i hGi hs => ?_⟩, fun i et' sz' fz2 e2 xs2 hi => ?_, fun b hs => ?_, M.uniq⟩
  · have e' : i ≠ id := by rintro rfl; rw [List.getElem?_set_self hid] at hi; cases hi
    rw [List.getElem?_set_ne (Ne.symm e')] at hi
    obtain ⟨h1, cur, T, h2, h3⟩ := M.box i cs hi
    exact ⟨h1, cur, T, h2, h3.ext E⟩
  · have e' : i ≠ id := by rintro rfl; rw [List.getElem?_set_self hid] at hi; cases hi
    rw [List.getElem?_set_ne (Ne.symm e')] at hi
    exact M.fbox i cs hi j u hj
  · have e' : i ≠ id := by rintro rfl; rw [List.getElem?_set_self hid] at hi; cases hi
    rw [List.getElem?_set_ne (Ne.symm e')] at hi
    exact ⟨(M.iter i y hi).1, (M.iter i y hi).2.len (by simp)⟩
  · obtain ⟨et', sz', e2, xs2, h3, h4⟩ := (M.imm b o hA).2 i hGi hs
    have e' : i ≠ id := by rintro rfl; rw [h] at h3; cases h3
    exact ⟨et', sz', e2, xs2, by rw [List.getElem?_set_ne (Ne.symm e')]; exact h3, h4⟩
  · by_cases e' : i = id
    · subst e'
      rw [List.getElem?_set_self hid] at hi
      cases hi
      exact ⟨(M.roww _ _ _ _ _ _ h).1, hw⟩
    · rw [List.getElem?_set_ne (Ne.symm e')] at hi
      exact M.roww i _ _ _ _ _ hi
  · obtain ⟨i, et', sz', fz2, e2, xs2, h3, h4⟩ := M.nsub b hs
    by_cases e' : i = id
    · subst e'
      exact ⟨i, _, _, _, _, _, h3, List.getElem?_set_self hid⟩
    · exact ⟨i, et', sz', fz2, e2, xs2, h3, by rw [List.getElem?_set_ne (Ne.symm e')]; exact h4⟩
end
section
variable {P : Program} {ty : Tys} {Df : List Deferred} {w0 : World} {g0 : Gh} {o0 : List Ob} {N : Nat} {Q : Ex → St → Prop}
def quietW (ty : Tys) : Op → Bool
  | .store _ _ _ | .next _ _ | .mapUpdate _ _ _ _ => false
  | .call { callee := .builtin .append, .. } => false
  | .call { callee := .value f, argTypes, .. } => !argTypes.toList.any (ptrT ty) && !rawF f && !tmpF f argTypes
  | .convert s d _ => !(s == d && (tyLook s ty).sl)
  | _ => true
def Good (Df : List Deferred) (ty : Tys) (P : Program) (w0 : World) (g0 : Gh) (o0 : List Ob) (N : Nat) (Q : Ex → St → Prop) (K : St → Tree) (op : Op) (w1 : World) (a : Act) (w : World) : Prop := (quietW ty op = true → LeB w1 w) ∧ ∃ s, Sim Df w0 g0 o0 N s a w ∧ (K s).ok Df P w0 g0 o0 N Q
theorem slots_put {w w' : World} {g g' : Gh} {s : St} {ob' : List Ob} {a : Act} (hS : Slots w g s a) (E : Ext w g s.ob w' g' ob') {d : Option Nat} (hd : ∀ t, d = some t → t < a.tmps.size) {v : Value} {x : AV} (hv : ARel w' g' ob' v x) :
    Slots w' g' (St.put ⟨s.tm, ob'⟩ d x) (a.put d v) := by
  intro t
  cases d with
  | none => exact (hS t).ext E
  | some d =>
    have hlt := hd d rfl
    show ARel w' g' ob' ((a.tmps.setIfInBounds d v).getD t undef) (if t = d then x else lk t s.tm)
    by_cases e : t = d
    · subst e
      rw [if_pos rfl]
      have : (a.tmps.setIfInBounds t v).getD t undef = v := by simp [Array.getD_eq_getD_getElem?, hlt]
      rw [this]; exact hv
    · rw [if_neg e]
      have : (a.tmps.setIfInBounds d v).getD t undef = a.tmps.getD t undef := by
        simp only [Array.getD_eq_getD_getElem?]
        rw [Array.getElem?_setIfInBounds_ne (Ne.symm e)]
      rw [this]; exact (hS t).ext E
theorem sim_put {s : St} {a : Act} {w w' : World} {g g' : Gh} {ob' : List Ob} (hs : Sim Df w0 g0 o0 N s a w) (hS : Slots w g s a) (h0 : Step w0 g0 o0 w g s.ob) (M' : Mem w' g' ob') (h1 : Step w g s.ob w' g' ob')
    {d : Option Nat} (hd : ∀ t, d = some t → t < N) {v : Value} {x : AV} (hv : ARel w' g' ob' v x) : Sim Df w0 g0 o0 N (St.put ⟨s.tm, ob'⟩ d x) (a.put d v) w' := by
  refine ⟨?_, ?_, g', ?_, slots_put hS h1.ext (fun t ht => by rw [hs.size]; exact hd t ht) hv, ?_⟩
  · cases d <;> exact hs.defers
  · cases d with
    | none => exact hs.size
    | some d => show (a.tmps.setIfInBounds d v).size = N; rw [Array.size_setIfInBounds]; exact hs.size
  · cases d <;> exact M'
  · cases d <;> exact h0.trans h1
theorem run_valW {S : Sem Value} {W W' : World} {v : Value} (h : S.run P W = .ok v W') : (do pure (Next.value (← S)) : Sem Next).run P W = .ok (.value v) W' := by
  rw [Sem.run_bind, h]; rfl
theorem wp_ok {o : Oper} {a : Act} {w w' : World} {K : Act → World → Prop} {R : Exit → Act → World → Prop} {v : Value} (h : (execOp a.eval o).run P w = .ok (.value v) w') (hk : K (a.put o.dst v) w') : o.wp P a w K R := by
  unfold Oper.wp
  rw [h]
  exact hk
theorem commit_sim {s : St} {a : Act} {w : World} (x : Operand) (hs : Sim Df w0 g0 o0 N s a w) : Sim Df w0 g0 o0 N (commit std s x) a w := by
  unfold commit
  split
  · rename_i t
    split
    · rename_i id ep k hv
      split
      · rename_i et sz e xs hob
        split
        · rename_i he
          subst he
          obtain ⟨g, M, hS, h0⟩ := hs.rel
          have hr := hS t
          rw [hv] at hr
          obtain ⟨h1, et', sz', fz', e', xs', h2, h3, h4⟩ := hr
          rw [hob] at h2; cases h2
          obtain ⟨h5, h6, h7⟩ := h4 rfl
          have ec : std.cut xs 0 k = xs.take k.toNat := by simp [std]
          have E := Ext.reRow (w := w) (g := g) hob false (std.cut xs 0 k)
          have M' := M.reRow hob (xs' := std.cut xs 0 k) (fun y hy => (M.roww _ _ _ _ _ _ hob).2 y (by rw [ec] at hy; exact List.mem_of_mem_take hy))
          refine ⟨hs.defers, hs.size, g, M', fun u => ?_, h0.trans ⟨rfl, rfl, rfl, Nat.le_refl _, fun _ _ _ => rfl, fun b id h => .inl ⟨id, h⟩, fun b o h => .inl h, E, by simp⟩⟩
          show ARel w g _ _ (if u = t then .row id (e + 1) else lk u s.tm)
          by_cases eu : u = t
          · subst eu
            rw [if_pos rfl]
            exact ⟨h1, et, sz, false, e + 1, _, List.getElem?_set_self (lt_of_some hob), Nat.le_refl _, fun _ => by rw [ec]; exact h7⟩
          · rw [if_neg eu]; exact (hS u).ext E
        · exact hs
      · exact hs
    · exact hs
  · exact hs
theorem op_still {K : St → Tree} {o : Oper} {s : St} {a : Act} {w : World} {R : Exit → Act → World → Prop} (hs : Sim Df w0 g0 o0 N s a w) (hd : ∀ t, o.dst = some t → t < N)
    {x : AV} (hy : ∀ g, Mem w g s.ob → Slots w g s a → Yld P w g s a o (readsM o.op) x) (hok : (K (St.put s o.dst x)).ok Df P w0 g0 o0 N Q) : o.wp P a w (Good Df ty P w0 g0 o0 N Q K o.op w) R := by
  obtain ⟨g, M, hS, h0⟩ := hs.rel
  obtain ⟨v, h1, h2⟩ := hy g M hS
  exact wp_ok (h1 w (fun _ => LeB.refl w)) ⟨fun _ => LeB.refl w, _, sim_put hs hS h0 M Step.refl hd h2, hok⟩
theorem op_alloc (hT : TyOk P ty) {K : St → Tree} {o : Oper} {s : St} {a : Act} {w : World} {R : Exit → Act → World → Prop} (hs : Sim Df w0 g0 o0 N s a w) (hd : ∀ t, o.dst = some t → t < N)
    {T : Nat} (ho : o.op = .alloc T) (hk : (tyLook T ty).ok = true) (hok : (K (St.put ⟨s.tm, s.ob ++ [.box ((tyLook T ty).zero.map .val)]⟩ o.dst (.box s.ob.length 0))).ok Df P w0 g0 o0 N Q) : o.wp P a w (Good Df ty P w0 g0 o0 N Q K o.op w) R := by
  obtain ⟨g, M, hS, h0⟩ := hs.rel
  have ti := ty_ok hT hk
  obtain ⟨z, hz, hzr⟩ := ti.zeroV
  have hr : (execOp a.eval o).run P w = .ok (.value (.pointer (some ⟨w.heap.size, 0, none⟩))) (w.alloc (.cells z.cells T)) := by
    simp only [execOp, ho]
    refine run_valW ?_
    simp only [Instr.alloc, Sem.run_bind, hzr, Result.andThen_ok, newVar, newRow, run_newObj, Sem.run_pure]
    rfl
  have hc : ARelC w g s.ob z.cells.toList ((tyLook T ty).zero.map .val) := by rw [hz]; exact zero_rel ti.zone
  have M' := M.new (.cells z.cells T) (.box ((tyLook T ty).zero.map .val)) (fun cs h => by cases h; exact ⟨_, _, rfl, hc⟩) (fun cs h => by cases h) (fun y h => by cases h) (fun et sz fz e xs h => by cases h)
  refine wp_ok hr ⟨fun _ => (Below.refl _ w).alloc (Nat.le_refl _) _, _, sim_put hs hS h0 M' (Step.new M _ _) hd ?_, hok⟩
  refine ⟨by simp [Gh.new], ?_⟩
  rw [get_new]; trivial
theorem op_box {K : St → Tree} {o : Oper} {s : St} {a : Act} {w : World} {R : Exit → Act → World → Prop} (hs : Sim Df w0 g0 o0 N s a w) (hd : ∀ t, o.dst = some t → t < N)
    {T : Nat} {x : Operand} (ho : o.op = .box T x) (hl : (ev s x).live = true) (hok : (K (St.put ⟨s.tm, s.ob ++ [.box (ev s x).cells]⟩ o.dst (.box s.ob.length 0))).ok Df P w0 g0 o0 N Q) : o.wp P a w (Good Df ty P w0 g0 o0 N Q K o.op w) R := by
  obtain ⟨g, M, hS, h0⟩ := hs.rel
  have hr : (execOp a.eval o).run P w = .ok (.value (.pointer (some ⟨w.heap.size, 0, none⟩))) (w.alloc (.cells (a.eval x).cells T)) := by
    simp only [execOp, ho]
    refine run_valW ?_
    simp only [Instr.box, Sem.run_bind, Result.andThen_ok, newVar, newRow, run_newObj, Sem.run_pure]
    rfl
  have hc := (ev_rel hS x).cells hl
  have M' := M.new (.cells (a.eval x).cells T) (.box (ev s x).cells) (fun cs h => by cases h; exact ⟨_, _, rfl, hc⟩) (fun cs h => by cases h) (fun y h => by cases h) (fun et sz fz e xs h => by cases h)
  refine wp_ok hr ⟨fun _ => (Below.refl _ w).alloc (Nat.le_refl _) _, _, sim_put hs hS h0 M' (Step.new M _ _) hd ?_, hok⟩
  refine ⟨by simp [Gh.new], ?_⟩
  rw [get_new]; trivial
theorem op_store (hT : TyOk P ty) {K : St → Tree} {o : Oper} {s : St} {a : Act} {w : World} {R : Exit → Act → World → Prop} (hs : Sim Df w0 g0 o0 N s a w) (hd : ∀ t, o.dst = some t → t < N)
    {T : Nat} {x y : Operand} (ho : o.op = .store T x y) {id off : Nat} {c : List AV} (hx : ev s x = .box id off) (hb : s.ob[id]? = some (.box c)) (hl : (ev s y).live = true) (hk : (tyLook T ty).ok = true)
    (hsz : (ev s y).cells.length = (tyLook T ty).size) (hle : off + (ev s y).cells.length ≤ c.length)
    (hok : (K (St.put ⟨s.tm, s.ob.set id (.box (setCells c off (ev s y).cells))⟩ o.dst .dead)).ok Df P w0 g0 o0 N Q) : o.wp P a w (Good Df ty P w0 g0 o0 N Q K o.op w) R := by
  obtain ⟨g, M, hS, h0⟩ := hs.rel
  have hc := (ev_rel hS y).cells hl
  have hxr := ev_rel hS x
  rw [hx] at hxr
  have hv : a.eval x = .pointer (some ⟨g.loc id, off, none⟩) := hxr.1
  obtain ⟨hG, cur, T', hh, hcur⟩ := M.box id c hb
  have hlen : (a.eval y).cells.size = (ev s y).cells.length := by simpa using hc.1
  have hcl : cur.size = c.length := by simpa using hcur.1
  have h1 : ∀ v ∈ (a.eval y).cells.toList, v.oneCell' = true := fun v hv => by
    obtain ⟨j, hj, rfl⟩ := List.mem_iff_getElem.1 hv
    exact (hc.2 j _ _ (List.getElem?_eq_getElem hj) (List.getElem?_eq_getElem (by rw [← hc.1]; exact hj))).2
  have hst := run_storeCells_cells (P := P) (g.loc id) off (a.eval y).cells.toList 0 w (fun j hj => by
      have : off + j < cur.size := by simp at hj; omega
      simp [World.cell?, hh, this]) (fun j hj => by simp [World.frozen?, hh]) h1
  rw [Nat.add_zero] at hst
  have hsT := (ty_ok hT hk).size w
  have hr : (execOp a.eval o).run P w = .ok .skip (w.setCells (g.loc id) off (a.eval y).cells.toList) := by
    have hne : ¬ ((a.eval y).cells.size ≠ (tyLook T ty).size) := by omega
    simp only [execOp, ho, Instr.storeAt, hv, Instr.sureAddr, storeVar, Sem.run_bind, Sem.run_pure, Result.andThen_ok, hsT, hne, if_false, hst]
  have M' := M.store hb hc hle
  have : (execOp a.eval o).run P w = .ok .skip (w.setCells (g.loc id) off (a.eval y).cells.toList) := hr
  unfold Oper.wp
  rw [hr]
  show Good Df ty P w0 g0 o0 N Q K o.op w (a.put o.dst undef) _
  exact ⟨fun h => by simp [ho, quietW] at h, _, sim_put hs hS h0 M' (Step.store M hb _ _ _) hd (v := undef) (x := .dead) trivial, hok⟩
theorem nilq_sound (hT : TyOk P ty) {w : World} {s : St} {a : Act} {K : St → Tree} {o : Oper} {op : BinOp} {T T' : Nat} {x y : Operand} (ho : o.op = .binOp op T x y T')
    {xs : List AV} (hn : nilq s x y = some xs) (hk : (tyLook T ty).kd = 2) (b : Bool) (hop : op = if b then .eql else .neq)
    (hok : (std.emp xs → (K (St.put s o.dst (.val (.bool b)))).ok Df P w0 g0 o0 N Q) ∧ (K (St.put s o.dst (.val (.bool !b)))).ok Df P w0 g0 o0 N Q) :
    ∃ z, (K (St.put s o.dst z)).ok Df P w0 g0 o0 N Q ∧ ∀ g rd, Slots w g s a → Yld P w g s a o rd z := by
  unfold nilq at hn
  split at hn
  · rename_i sz xs' n c hx hy
    obtain rfl : xs' = xs := by simpa using hn
    by_cases hg : ∃ g, Slots w g s a
    · obtain ⟨g, hS⟩ := hg
      have hxr := ev_rel hS x
      have hyr := ev_rel hS y
      rw [hx] at hxr
      rw [hy] at hyr
      have hyv := hyr.valEq
      have hxr : PRel w g.A (a.eval x) (.slc sz xs') := hxr
      generalize hv : a.eval x = v at hxr
      cases hxr with
      | nil =>
        refine ⟨_, hok.1 rfl, fun g rd _ => yld_bin (u := .slice none 0 0) ho hv hyv (by simp) (by simp) (r := .bool b) (fun W => ?_) rfl⟩
        have := eq_slice_nil (P := P) hT hk none 0 0 n c W
        subst hop
        cases b
        · exact this.2
        · exact this.1
      | slc bk of cp _ _ f hc hm hw hcell hrel =>
        refine ⟨_, hok.2, fun g rd _ => yld_bin ho hv hyv (by simp) (by simp) (r := .bool !b) (fun W => ?_) rfl⟩
        have := eq_slice_nil (P := P) hT hk (some ⟨bk, of, none⟩) xs'.length cp n c W
        subst hop
        cases b
        · exact this.2
        · exact this.1
    · exact ⟨_, hok.2, fun g rd hS => absurd ⟨g, hS⟩ hg⟩
  · cases hn
theorem eqCs_vals {w : World} {g : Gh} {ob : List Ob} : ∀ (cs ds : List AV) (us vs : List Value) (sh : List Srt) (b : Bool), eqCs std cs ds = some (sh, b) → ARelC w g ob us cs → ARelC w g ob vs ds →
    us.map srtV = sh.map some ∧ vs.map srtV = sh.map some ∧ b = (us.zip vs).all fun q => eqV q.1 q.2
  | [], [], us, vs, sh, b, h, hu, hv => by
    obtain ⟨rfl, rfl⟩ : [] = sh ∧ true = b := by simpa [eqCs] using h
    obtain rfl : us = [] := List.eq_nil_of_length_eq_zero hu.1
    obtain rfl : vs = [] := List.eq_nil_of_length_eq_zero hv.1
    exact ⟨rfl, rfl, rfl⟩
  | [], _ :: _, _, _, _, _, h, _, _ => by cases h
  | _ :: _, [], _, _, _, _, h, _, _ => by cases h
  | x :: r, y :: r', us, vs, sh, b, h, hu, hv => by
    cases us with
    | nil => exact absurd hu.1 (by simp)
    | cons u us =>
      cases vs with
      | nil => exact absurd hv.1 (by simp)
      | cons v vs =>
        simp only [eqCs] at h
        split at h
        · rename_i s1 b1 s2 b2 h1 h2
          obtain ⟨rfl, rfl⟩ : s1 :: s2 = sh ∧ std.andB b1 b2 = b := by simpa using h
          obtain ⟨i1, i2, i3⟩ := eqCs_vals r r' us vs s2 b2 h2 ⟨by simpa using hu.1, fun j a c ha hc => hu.2 (j + 1) a c (by simpa using ha) (by simpa using hc)⟩ ⟨by simpa using hv.1, fun j a c ha hc => hv.2 (j + 1) a c (by simpa using ha) (by simpa using hc)⟩
          have hu0 := (hu.2 0 u x rfl rfl).1
          have hv0 := (hv.2 0 v y rfl rfl).1
          unfold eqC at h1
          split at h1
          · rename_i k a k' c
            split at h1
            · rename_i hk
              subst hk
              obtain ⟨rfl, rfl⟩ : Srt.int k = s1 ∧ std.eqI a c = b1 := by simpa using h1
              cases (show u = _ from ARel.valEq (g := g) (w := w) (ob := ob) hu0)
              cases (show v = _ from ARel.valEq (g := g) (w := w) (ob := ob) hv0)
              exact ⟨by simp [srtV, i1], by simp [srtV, i2], by rw [i3]; rfl⟩
            · cases h1
          · rename_i a c
            obtain ⟨rfl, rfl⟩ : Srt.boo = s1 ∧ std.eqB a c = b1 := by simpa using h1
            cases (show u = _ from ARel.valEq (g := g) (w := w) (ob := ob) hu0)
            cases (show v = _ from ARel.valEq (g := g) (w := w) (ob := ob) hv0)
            exact ⟨by simp [srtV, i1], by simp [srtV, i2], by rw [i3]; rfl⟩
          · rename_i a c
            obtain ⟨rfl, rfl⟩ : Srt.str = s1 ∧ std.eqS a c = b1 := by simpa using h1
            cases (show u = _ from ARel.valEq (g := g) (w := w) (ob := ob) hu0)
            cases (show v = _ from ARel.valEq (g := g) (w := w) (ob := ob) hv0)
            exact ⟨by simp [srtV, i1], by simp [srtV, i2], by rw [i3]; rfl⟩
          · cases h1
        · cases h
theorem eqAgg_sound {w : World} {s : St} {a : Act} {o : Oper} {op : BinOp} {T T' : Nat} {x y : Operand} (ho : o.op = .binOp op T x y T') {sh : List Srt} {b : Bool} (h : eqAgg std s op x y = some (sh, b)) (he : EqOk P T sh) {g : Gh} {rd : Bool} (hS : Slots w g s a) :
    Yld P w g s a o rd (.val (.bool b)) := by
  unfold eqAgg at h
  split at h
  · rename_i cs ds hx hy
    split at h
    · rename_i sh' b' hc
      have hxr := ev_rel hS x
      have hyr := ev_rel hS y
      rw [hx] at hxr
      rw [hy] at hyr
      obtain ⟨us, hu, hur⟩ := hxr
      obtain ⟨vs, hv, hvr⟩ := hyr
      obtain ⟨e1, e2, e3⟩ := eqCs_vals cs ds us.toList vs.toList sh' b' hc hur hvr
      split at h
      · obtain ⟨rfl, rfl⟩ : sh' = sh ∧ b' = b := by simpa using h
        refine yld_of (S := do eqGuard .eql T x y (a.eval x) (a.eval y); binOp .eql T (a.eval x) (a.eval y)) (fun W => by simp only [execOp, ho]) ⟨.bool b', fun W _ => ?_, .val _ rfl⟩
        obtain ⟨h1, _, h3, _⟩ := he us.toList vs.toList x y W e1 e2
        rw [Sem.run_bind, hu, hv, h1]
        rw [e3]; exact h3
      · obtain ⟨rfl, rfl⟩ : sh' = sh ∧ std.notB b' = b := by simpa using h
        refine yld_of (S := do eqGuard .neq T x y (a.eval x) (a.eval y); binOp .neq T (a.eval x) (a.eval y)) (fun W => by simp only [execOp, ho]) ⟨.bool !b', fun W _ => ?_, .val _ rfl⟩
        obtain ⟨_, h2, _, h4⟩ := he us.toList vs.toList x y W e1 e2
        rw [Sem.run_bind, hu, hv, h2]
        rw [e3]; exact h4
      · cases h
    · cases h
  · cases h
theorem nilq_ok (hT : TyOk P ty) {w : World} {s : St} {a : Act} {cs : Nat → List AV → List Ob → Option (AV × List Ob)} {K : St → Tree} {o : Oper} {op : BinOp} {T T' : Nat} {x y : Operand} (ho : o.op = .binOp op T x y T')
    (hok : (aop std ty cs K o s).ok Df P w0 g0 o0 N Q) :
    (aopRest std ty K o s o.op).ok Df P w0 g0 o0 N Q ∨ ∃ z, (K (St.put s o.dst z)).ok Df P w0 g0 o0 N Q ∧ ∀ g rd, Slots w g s a → Yld P w g s a o rd z := by
  simp only [aop, ho] at hok
  split at hok
  · rename_i xs hn
    right
    split at hok
    · rename_i hk
      split at hok
      · exact nilq_sound hT ho hn hk true rfl hok
      · exact nilq_sound hT ho hn hk false rfl hok
      · exact hok.elim
    · exact hok.elim
  · split at hok
    · rename_i sh b he
      exact .inr ⟨_, hok.2, fun g rd hS => eqAgg_sound ho he hok.1 hS⟩
    · left; rw [ho]; exact hok
theorem thaw_sim {s : St} {a : Act} {w : World} (x : Operand) (hs : Sim Df w0 g0 o0 N s a w) : Sim Df w0 g0 o0 N (thaw std s x) a w := by
  have go : ∀ (t : Nat) (v : AV) (ob : List Ob), frz std true 9 s.ob (lk t s.tm) = some (v, ob) → Sim Df w0 g0 o0 N ⟨(t, v) :: s.tm, ob⟩ a w := fun t v ob he => by
    obtain ⟨g, M, hS, h0⟩ := hs.rel
    obtain ⟨g', M', E, hr, hL⟩ := frzTop M (hS t) he
    refine ⟨hs.defers, hs.size, g', M', fun u => ?_, h0.trans (Step.ghost E hL)⟩
    show ARel w g' _ _ (if u = t then v else lk u s.tm)
    by_cases eu : u = t
    · subst eu
      rw [if_pos rfl]
      exact hr
    · rw [if_neg eu]; exact (hS u).ext E
  unfold thaw
  split
  · rename_i t
    split
    · rename_i id ep hv
      split
      · rename_i v ob he
        exact go t v ob (by rw [hv]; exact he)
      · exact hs
    · rename_i id ep k hv
      split
      · rename_i v ob he
        exact go t v ob (by rw [hv]; exact he)
      · exact hs
    · exact hs
  · exact hs
end
end Go.Proofs.YtcmjijpofkoogaaGreat
namespace Go.Proofs.YtcmjijpofkoogaaGreat
open Go.RowKit Go.Lib
section
variable {P : Program} {ty : Tys} {Df : List Deferred} {w0 : World} {g0 : Gh} {o0 : List Ob} {N : Nat} {Q : Ex → St → Prop} {w w' : World} {g g' : Gh} {ob ob' : List Ob}
theorem pur0_rel {v : Value} {x : AV} (h : ARel0 w g ob v x) (hp : x.pur0 = true) : PRel w g.A v x := by cases x <;> first | exact h | cases hp
theorem pur_alike {vs : List Value} {x : AV} {v : Value} (h : ARel1 w g ob v x) (hp : x.pur = true) : Alike w g.A v.cells.toList x.cells := by
  have hl : x.live = true := by cases x <;> first | rfl | cases hp
  have hc := h.to.cells hl
  refine ⟨hc.1, fun j y u hy hu => pur0_rel (hc.2 j y u hy hu).1 ?_⟩
  have hm := List.mem_of_getElem? hu
  cases x with
  | agg cs => exact List.all_eq_true.1 hp u hm
  | val a => obtain rfl : u = AV.val a := by simpa [AV.cells] using hm
             rfl
  | slc a b => obtain rfl : u = AV.slc a b := by simpa [AV.cells] using hm
               rfl
  | opt a => obtain rfl : u = AV.opt a := by simpa [AV.cells] using hm
             rfl
  | ref a => obtain rfl : u = AV.ref a := by simpa [AV.cells] using hm
             rfl
  | _ => cases hp
theorem fillDense {sz : Nat} : ∀ (vs : List Value) (k : Nat) (c : Array Value), (∀ v ∈ vs, v.cells.size = sz) → (k + vs.length) * sz ≤ c.size →
    ∃ c', Instr.fill (fun i => some (i * sz, sz)) c ((vs.zipIdx k).map fun x => (x.2, x.1)) = some c' ∧ c'.toList = c.toList.take (k * sz) ++ (vs.flatMap (·.cells.toList) ++ c.toList.drop ((k + vs.length) * sz))
  | [], k, c, _, _ => ⟨c, rfl, by simp⟩
  | v :: r, k, c, hv, hl => by
    have h1 := hv v List.mem_cons_self
    have hle : k * sz + sz ≤ c.size := by
      have : (k + 1) * sz ≤ (k + (v :: r).length) * sz := Nat.mul_le_mul_right _ (by simp)
      rw [Nat.add_mul, Nat.one_mul] at this
      omega
    have hfo := fold_set (k * sz) v.cells.toList 0 c
    have e1 : (v.cells.toList.take (c.size - (k * sz + 0))) = v.cells.toList := List.take_of_length_le (by simp; omega)
    rw [e1, Nat.add_zero, Array.length_toList, h1] at hfo
    generalize hc2 : (v.cells.toList.zipIdx 0).foldl (fun cs (x : Value × Nat) => cs.setIfInBounds (k * sz + x.2) x.1) c = c2 at hfo
    have hsz2 : c2.size = c.size := by
      have := congrArg List.length hfo
      simp only [Array.length_toList, List.length_append, List.length_take, List.length_drop, h1] at this
      omega
    obtain ⟨c', h3, h4⟩ := fillDense r (k + 1) c2 (fun v h => hv v (List.mem_cons_of_mem _ h)) (by rw [hsz2]; simpa [Nat.add_assoc, Nat.add_comm 1] using hl)
    refine ⟨c', ?_, ?_⟩
    · simp only [List.zipIdx_cons, List.map_cons, Instr.fill]
      rw [if_neg]
      · rw [← h3, ← hc2]
        congr 1
        rw [← Array.foldl_toList, Array.toList_zipIdx]
      · simp only [Bool.or_eq_true, decide_eq_true_eq, bne_iff_ne, ne_eq, not_or]
        omega
    · rw [h4, hfo]
      have e2 : (k + 1) * sz = k * sz + sz := by rw [Nat.add_mul, Nat.one_mul]
      have e3 : (k + 1 + r.length) * sz = k * sz + sz + r.length * sz := by rw [Nat.add_mul, e2]
      have e4 : (k + (v :: r).length) * sz = k * sz + sz + r.length * sz := by rw [List.length_cons, ← e3]; congr 1; omega
      have h5 : (c.toList.take (k * sz)).length = k * sz := by rw [List.length_take, Array.length_toList]; omega
      rw [e2, e3, e4, List.flatMap_cons]
      have h6 : (v.cells.toList).length = sz := by rw [Array.length_toList, h1]
      generalize hX : c.toList.take (k * sz) = X at h5
      have t1 : (X ++ (v.cells.toList ++ c.toList.drop (k * sz + sz))).take (k * sz + sz) = X ++ v.cells.toList := by
        rw [← List.append_assoc]
        exact List.take_left' (by rw [List.length_append]; omega)
      have t2 : (X ++ (v.cells.toList ++ c.toList.drop (k * sz + sz))).drop (k * sz + sz + r.length * sz) = c.toList.drop (k * sz + sz + r.length * sz) := by
        rw [← List.append_assoc, List.drop_append, List.drop_eq_nil_of_le (by rw [List.length_append]; omega), List.nil_append, List.length_append, h5, h6, Nat.add_sub_cancel_left, List.drop_drop]
      rw [t1, t2]
      simp only [List.append_assoc]
theorem flatMap_alike {A : Nat → Nat → Prop} : ∀ (vs : List Value) (xs : List AV), vs.length = xs.length → (∀ (j : Nat) v x, vs[j]? = some v → xs[j]? = some x → Alike w A v.cells.toList x.cells) → Alike w A (vs.flatMap (·.cells.toList)) (flatA xs)
  | [], xs, hl, _ => by
    have : xs = [] := List.eq_nil_of_length_eq_zero hl.symm
    subst this; exact Alike.nil
  | v :: vs, [], hl, _ => by simp at hl
  | v :: vs, x :: xs, hl, h => by
    rw [List.flatMap_cons, flatA, List.flatMap_cons]
    exact (h 0 v x rfl rfl).append (flatMap_alike vs xs (by simpa using hl) (fun j v x h1 h2 => h (j + 1) v x (by simpa using h1) (by simpa using h2)))
theorem KidV.nil {id : Nat} : KidV w g id (.slice none 0 0) := ⟨0, [], World.ownsRow_nil _ _ _ _, fun b h => by cases h⟩
theorem Mem.sub_lt (M : Mem w g ob) {b : Nat} (h : g.sub b = true) : b < w.heap.size := by
  obtain ⟨id, _, _, _, _, _, h1, _⟩ := M.nsub b h
  exact (M.own b id h1).1
theorem Mem.sub_new (M : Mem w g ob) {b : Nat} (h : w.heap.size ≤ b) : g.sub b = false := by
  cases hs : g.sub b with
  | false => rfl
  | true => have := M.sub_lt hs; omega
theorem kidsNil_cell {sz : Nat} : ∀ (xs : List AV), kidsNil xs = true → (∀ x ∈ xs, x.cells.length = sz) → ∀ (j : Nat) u, (flatA xs)[j]? = some u → j % sz = 1 → u = .val (.slice none 0 0)
  | [], _, _, j, u, h, _ => by simp at h
  | x :: r, hk, hw, j, u, h, hj => by
    unfold kidsNil at hk
    split at hk
    · rename_i a hc
      have hx := hw x (List.mem_cons_self ..)
      have e : flatA (x :: r) = a :: .val (.slice none 0 0) :: flatA r := by simp [hc]
      rw [e] at h
      obtain rfl : 2 = sz := by rw [hc] at hx; exact hx
      match j, h, hj with
      | 0, _, hj => cases hj
      | 1, h, _ => simpa using h.symm
      | j + 2, h, hj => exact kidsNil_cell r hk (fun y hy => hw y (List.mem_cons_of_mem _ hy)) j u (by simpa using h) (by omega)
    · cases hk
theorem nil_kids {E sz : Nat} {xs : List AV} {ys : List Value} (hs : subOk E xs = true) (hal : Alike w g.A ys (flatA xs)) (hw : ∀ x ∈ xs, x.cells.length = sz) (he : E = subT) {j : Nat} {y : Value} (hy : ys[j]? = some y) (hj : j % sz = 1) :
    y = .slice none 0 0 := by
  simp only [subOk, he, if_true] at hs
  have hl : j < (flatA xs).length := by rw [← hal.1]; exact lt_of_some hy
  have hu := List.getElem?_eq_getElem hl
  have := hal.2 j y _ hy hu
  rw [kidsNil_cell xs hs hw j _ hu hj] at this
  exact (show y = _ from ARel.valEq (g := g) (w := w) (ob := []) this)
theorem op_buildSlice (hT : TyOk P ty) {K : St → Tree} {o : Oper} {s : St} {a : Act} {w : World} {R : Exit → Act → World → Prop} (hs : Sim Df w0 g0 o0 N s a w) (hd : ∀ t, o.dst = some t → t < N)
    {T len : Nat} {parts : Array (Nat × Operand)} (ho : o.op = .buildSlice T len parts) {xs : List AV} {ob : List Ob} (he : eachM (frz std true 9) s.ob (parts.toList.map fun x => ev s x.2) = some (xs, ob))
    (hsub : subOk (tyLook T ty).elem xs = true) (hel : elOk ty T (tyLook (tyLook T ty).elem ty).size = true) (h1 : onePer (tyLook (tyLook T ty).elem ty).size xs = true) (hp : xs.all AV.pur = true) (hlen : len ≤ 4000) (hsz : (tyLook (tyLook T ty).elem ty).size ≤ 4000)
    (hi : parts.toList.map (·.1) = List.range len)
    (hok : (K (St.put ⟨s.tm, ob ++ [.row (tyLook T ty).elem (tyLook (tyLook T ty).elem ty).size false 0 xs]⟩ o.dst (.row ob.length 0))).ok Df P w0 g0 o0 N Q) : o.wp P a w (Good Df ty P w0 g0 o0 N Q K o.op w) R := by
  obtain ⟨g, M, hS, h0⟩ := hs.rel
  have hL : ARelL w g s.ob (parts.toList.map fun x => a.eval x.2) (parts.toList.map fun x => ev s x.2) := by
    refine ⟨by simp, fun j v x hv hx => ?_⟩
    rw [List.getElem?_map, Option.map_eq_some_iff] at hv hx
    obtain ⟨q, hq, rfl⟩ := hv
    obtain ⟨q', hq', rfl⟩ := hx
    rw [hq] at hq'; cases hq'
    have hr := ev_rel hS q.2
    exact hr.to1 (each_live _ _ _ _ he _ (List.mem_map.2 ⟨q, List.mem_of_getElem? hq, rfl⟩))
  obtain ⟨g1, M1, E1, L1, G1⟩ := frzL _ _ g s.ob xs ob M hL he
  obtain ⟨e, hu, hee, te, hes, hpos⟩ := el_facts hT hel
  obtain ⟨ie, z, hie, hies, hieb, hiz, hzc, _⟩ := te.i
  rw [hes] at hies
  subst hee
  generalize hE : (tyLook T ty).elem = E at *
  generalize hSZ : (tyLook E ty).size = sz at *
  have hvl : (parts.toList.map fun x => a.eval x.2).length = xs.length := L1.1
  have hpl : parts.toList.length = len := by have := congrArg List.length hi; simpa using this
  have hps : parts.size = len := by simpa using hpl
  have hxl : xs.length = len := by rw [← hvl, List.length_map, hpl]
  have hcs : ∀ (j : Nat) v x, (parts.toList.map fun x => a.eval x.2)[j]? = some v → xs[j]? = some x → Alike w g1.A v.cells.toList x.cells ∧ x.cells.length = sz := fun j v x hv hx =>
    ⟨pur_alike (vs := []) (L1.2 j v x hv hx) (List.all_eq_true.1 hp x (List.mem_of_getElem? hx)), by have := List.all_eq_true.1 h1 x (List.mem_of_getElem? hx); simpa using this⟩
  have hv : ∀ v ∈ (parts.toList.map fun x => a.eval x.2), v.cells.size = sz := fun v hv => by
    obtain ⟨j, hj, rfl⟩ := List.mem_iff_getElem.1 hv
    obtain ⟨h2, h3⟩ := hcs j _ _ (List.getElem?_eq_getElem hj) (List.getElem?_eq_getElem (by omega))
    have := h2.1
    rw [Array.length_toList] at this
    omega
  have hparts : (parts.map fun (i, x) => (i, a.eval x)).toList = ((parts.toList.map fun x => a.eval x.2).zipIdx 0).map fun x => (x.2, x.1) := by
    rw [Array.toList_map]
    refine List.ext_getElem? fun j => ?_
    simp only [List.getElem?_map, List.getElem?_zipIdx, Nat.zero_add]
    cases hj : parts.toList[j]? with
    | none => rfl
    | some q =>
      have h4 : (parts.toList.map (·.1))[j]? = some q.1 := by rw [List.getElem?_map, hj]; rfl
      rw [hi, List.getElem?_range (by have := lt_of_some hj; omega)] at h4
      obtain rfl : j = q.1 := by simpa using h4
      rfl
  obtain ⟨c', hf, hc'⟩ := fillDense (sz := sz) (parts.toList.map fun x => a.eval x.2) 0 ((Array.range (len * sz)).map (z.cells[· % z.cells.size]!)) hv (by simp [hps])
  have hcsz : c'.toList = (parts.toList.map fun x => a.eval x.2).flatMap (·.cells.toList) := by
    rw [hc', Nat.zero_mul, List.take_zero, List.nil_append, Nat.zero_add, List.drop_eq_nil_of_le (by simp [hps]), List.append_nil]
  have hal : Alike w g1.A c'.toList (flatA xs) := by
    rw [hcsz]
    exact flatMap_alike _ _ hvl (fun j v x hv hx => (hcs j v x hv hx).1)
  have hw : ∀ x ∈ xs, x.cells.length = sz := fun x hx => by have := List.all_eq_true.1 h1 x hx; simpa using this
  have hc'l : c'.size = len * sz := by
    have := hal.1
    rw [flat_len xs hw, hxl, Array.length_toList] at this
    exact this
  have hsmall : ¬ len * sz > 2 ^ 24 := by
    have : len * sz ≤ 4000 * 4000 := Nat.mul_le_mul hlen hsz
    omega
  have hr : (execOp a.eval o).run P w = .ok (.value (.slice (some ⟨w.heap.size, 0, none⟩) len len)) (w.alloc (.cells c' E)) := by
    simp only [execOp, ho]
    refine run_valW ?_
    by_cases h0 : len * sz = 0
    · have : c' = #[] := by apply Array.eq_empty_of_size_eq_zero; omega
      subst this
      have hl0 : len = 0 := by
        rcases Nat.eq_zero_or_pos len with h | h
        · exact h
        · have := Nat.mul_pos h hpos; omega
      subst hl0
      have hp0 : parts = #[] := by
        apply Array.ext'
        exact List.eq_nil_of_length_eq_zero hpl
      subst hp0
      simp [Instr.buildSlice, run_underlying hu, sizeOf, typeInfo, hie, Instr.fill, newRow]
      congr 2
      apply Array.eq_empty_of_size_eq_zero
      simp
    · refine run_buildSlice w T E len _ c' ie z hu hie hiz (by rw [hies]; exact hsmall) (by rw [hies]; exact h0) ?_
      rw [hies, hparts]
      exact hf
  have hrow : RowV (w.alloc (.cells c' E)) (g1.new w ob) ob.length E sz (.slice (some ⟨w.heap.size, 0, none⟩) len len) xs := by
    refine ⟨c'.toList, ⟨by rw [Array.length_toList, hc'l, hxl], .inr ⟨w.heap.size, len, c', by rw [hxl], Nat.zero_le _, heap_new w _, by omega, by unfold maxLen; omega, hc'l, ?_⟩⟩, fun b hb => ?_, hal.keep (Ext.new M1 (.cells c' E) (.row E sz false 0 xs)).A, hw, fun b hb => ?_, fun he j y hy hj => ?_⟩
    · rw [hxl, ← hc'l]
      exact List.take_of_length_le (by simp)
    · obtain rfl : w.heap.size = b := by simpa [Value.ownBlock] using hb
      simp [Gh.new]
    · obtain rfl : w.heap.size = b := by simpa [Value.ownBlock] using hb
      exact M1.sub_new (Nat.le_refl _)
    · obtain rfl := nil_kids hsub hal hw he hy hj
      exact ⟨KidV.nil, fun _ _ b _ _ _ h => by cases h⟩
  have M' := M1.new (.cells c' E) (.row E sz false 0 xs) (fun cs h => by cases h) (fun cs h => by cases h) (fun y h => by cases h) (fun et sz' fz e ys h => by cases h; exact ⟨hpos, hw⟩)
  have hS1 : Slots w g1 ⟨s.tm, ob⟩ a := fun t => (hS t).ext E1
  refine wp_ok hr ⟨fun _ => (Below.refl _ w).alloc (Nat.le_refl _) _, _, sim_put (s := ⟨s.tm, ob⟩) ⟨hs.defers, hs.size, g1, M1, hS1, h0.trans (Step.ghost E1 G1)⟩ hS1 (h0.trans (Step.ghost E1 G1)) M' (Step.new M1 _ _) hd ?_, hok⟩
  exact ⟨rfl, E, sz, false, 0, xs, get_new, Nat.le_refl _, fun _ => hrow⟩
end
end Go.Proofs.YtcmjijpofkoogaaGreat
