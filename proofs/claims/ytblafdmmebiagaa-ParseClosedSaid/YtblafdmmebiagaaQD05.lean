/-
  Parts of the proof, joined: Al Am An Ao Ap Aq Axa Axb Ar As At Au. Conditions: as each theorem says.
-/
import Derived.Test.YtblafdmmebiagaaQD03
import Derived.Great.BuildSlice
namespace Go.Proofs.Ytblafdmmebiagaa
open Go.RowKit Go.Lib
section
variable {w : World} {g : Gh} {ob : List Ob}
def Gh.frzBox (g : Gh) (b n : Nat) : Gh := ⟨fun b' o => g.A b' o ∨ (b' = b ∧ o < n), fun b' => if b' = b then none else g.G b', g.loc, g.sub⟩
theorem freeze_box (M : Mem w g ob) {id : Nat} {cs us : List AV} (h : ob[id]? = some (.box cs)) (hu : ∀ (j : Nat) u, us[j]? = some u → ∃ y, w.cell? ⟨g.loc id, j, none⟩ = some y ∧ PRel w g.A y u) :
    ∃ g', Mem w g' (ob.set id (.fbox us)) ∧ Ext w g ob w g' (ob.set id (.fbox us)) ∧ GhLe g g' ob (ob.set id (.fbox us)) ∧
      ∀ (j : Nat) u, us[j]? = some u → g'.A (g.loc id) j ∧ ∃ y, w.cell? ⟨g.loc id, j, none⟩ = some y ∧ PRel w g'.A y u := by
  have hid := lt_of_some h
  obtain ⟨hG, cur, T, hh, hc⟩ := M.box id cs h
  have hb := (M.own _ _ hG).1
  have ne : ∀ {b i : Nat}, g.G b = some i → i ≠ id → b ≠ g.loc id := by
    rintro b i h1 h2 rfl
    rw [hG] at h1
    exact h2 (by simpa using h1.symm)
  have G' : ∀ {b i : Nat}, g.G b = some i → i ≠ id → (g.frzBox (g.loc id) us.length).G b = some i := fun h1 h2 => by simp only [Gh.frzBox]; rw [if_neg (ne h1 h2)]; exact h1
  have Gof : ∀ {b i : Nat}, (g.frzBox (g.loc id) us.length).G b = some i → g.G b = some i := fun {b i} h1 => by
    have h1 : (if b = g.loc id then none else g.G b) = some i := h1
    split at h1
    · cases h1
    · exact h1
  have E : Ext w g ob w (g.frzBox (g.loc id) us.length) (ob.set id (.fbox us)) := by
    refine ⟨fun b o h => ⟨.inl h, rfl⟩, fun _ _ => rfl, fun i hi => ?_, fun i hi => ?_, fun i et sz fz e xs hi => ?_, fun b i hGb hs => ⟨rfl, fun _ o h1 => h1.resolve_right fun h2 => ?_⟩⟩
    rotate_right
    · obtain ⟨et, sz, fz, fz', e, xs, xs', h3, _⟩ := hs
      rw [h2.1, hG] at hGb
      obtain rfl : id = i := by simpa using hGb
      rw [h] at h3; cases h3
    · by_cases e : i = id
      · subst e; rw [List.getElem?_set_self hid]; trivial
      · rw [List.getElem?_set_ne (Ne.symm e)]; exact hi
    · have : i ≠ id := by rintro rfl; rw [h] at hi; exact hi
      rw [List.getElem?_set_ne (Ne.symm this)]; exact hi
    · have : i ≠ id := by rintro rfl; rw [h] at hi; cases hi
      exact ⟨fz, e, xs, by rw [List.getElem?_set_ne (Ne.symm this)]; exact hi, Nat.le_refl _, fun _ => ⟨rfl, fun b hGb => ⟨G' hGb this, rfl⟩⟩⟩
  have new : ∀ (j : Nat) u, us[j]? = some u → (g.frzBox (g.loc id) us.length).A (g.loc id) j ∧ ∃ y, w.cell? ⟨g.loc id, j, none⟩ = some y ∧ PRel w (g.frzBox (g.loc id) us.length).A y u := fun j u hj => by
    obtain ⟨y, h1, h2⟩ := hu j u hj
    exact ⟨.inr ⟨rfl, lt_of_some hj⟩, y, h1, h2.keep E.A⟩
  refine ⟨_, ⟨fun i c hi => ?_, fun i c hi j u hj => ?_, fun i s p hi => ?_, fun b i hGb => ?_, fun b o hA => ?_, fun i et sz fz e xs hi => ?_, fun b hs => ?_, fun b b' i h1 h2 hs hs' => ?_⟩, E, ⟨fun b o hA => ?_, fun b i hGb => ?_, rfl, by simp⟩, new⟩
  · have e' : i ≠ id := by rintro rfl; rw [List.getElem?_set_self hid] at hi; cases hi
    rw [List.getElem?_set_ne (Ne.symm e')] at hi
    obtain ⟨h1, cur', T', h2, h3⟩ := M.box i c hi
    exact ⟨G' h1 e', cur', T', h2, h3.ext E⟩
  · by_cases e' : i = id
    · subst e'
      rw [List.getElem?_set_self hid] at hi
      obtain rfl : us = c := by simpa using hi
      exact new j u hj
    · rw [List.getElem?_set_ne (Ne.symm e')] at hi
      obtain ⟨h1, y, h2, h3⟩ := M.fbox i c hi j u hj
      exact ⟨.inl h1, y, h2, h3.keep E.A⟩
  · have e' : i ≠ id := by rintro rfl; rw [List.getElem?_set_self hid] at hi; cases hi
    rw [List.getElem?_set_ne (Ne.symm e')] at hi
    obtain ⟨h1, h2⟩ := M.iter i s p hi
    exact ⟨G' h1 e', h2⟩
  · simp only [Gh.frzBox] at hGb
    split at hGb
    · cases hGb
    · rw [List.length_set]; exact M.own b i hGb
  · rcases hA with hA | ⟨rfl, ho⟩
    · obtain ⟨h1, h2⟩ := M.imm b o hA
      refine ⟨h1, fun i hGi hs => ?_⟩
      have hne := box_apart M h hA
      simp only [Gh.frzBox] at hGi
      rw [if_neg hne] at hGi
      obtain ⟨et, sz, e, xs, h3, h4⟩ := h2 i hGi hs
      have e' : i ≠ id := by rintro rfl; rw [h] at h3; cases h3
      exact ⟨et, sz, e, xs, by rw [List.getElem?_set_ne (Ne.symm e')]; exact h3, h4⟩
    · refine ⟨hb, fun i hGi _ => ?_⟩
      simp only [Gh.frzBox, if_true] at hGi
      cases hGi
  · have e' : i ≠ id := by rintro rfl; rw [List.getElem?_set_self hid] at hi; cases hi
    rw [List.getElem?_set_ne (Ne.symm e')] at hi
    exact M.roww i et sz fz e xs hi
  · obtain ⟨i, et, sz, fz, e, xs, h3, h4⟩ := M.nsub b hs
    have e' : i ≠ id := by rintro rfl; rw [h] at h4; cases h4
    exact ⟨i, et, sz, fz, e, xs, G' h3 e', by rw [List.getElem?_set_ne (Ne.symm e')]; exact h4⟩
  · exact M.uniq b b' i (Gof h1) (Gof h2) hs hs'
  · rcases hA with hA | ⟨rfl, _⟩
    · exact .inl hA
    · exact .inr ⟨id, hG⟩
  · simp only [Gh.frzBox] at hGb
    split at hGb
    · cases hGb
    · exact hGb
def FrzOk (keep : Bool) (n : Nat) : Prop := ∀ (w : World) (g : Gh) (ob : List Ob) (v : Value) (x y : AV) (ob' : List Ob), Mem w g ob → ARel0 w g ob v x → v.oneCell' = true → frz std keep n ob x = some (y, ob') →
  ∃ g', Mem w g' ob' ∧ Ext w g ob w g' ob' ∧ ARel0 w g' ob' v y ∧ GhLe g g' ob ob' ∧ (keep = false → PRel w g'.A v y)
theorem each_sound {keep : Bool} {n : Nat} (hn : FrzOk keep n) : ∀ (cs : List AV) (vs : List Value) (w : World) (g : Gh) (ob : List Ob) (us : List AV) (ob' : List Ob), Mem w g ob → ARelC w g ob vs cs → eachM (frz std keep n) ob cs = some (us, ob') →
    ∃ g', Mem w g' ob' ∧ Ext w g ob w g' ob' ∧ ARelC w g' ob' vs us ∧ GhLe g g' ob ob' ∧ (keep = false → ∀ (j : Nat) y u, vs[j]? = some y → us[j]? = some u → PRel w g'.A y u)
  | [], vs, w, g, ob, us, ob', M, h, he => by
    obtain ⟨rfl, rfl⟩ : [] = us ∧ ob = ob' := by simpa [eachM] using he
    have hvs : vs = [] := List.eq_nil_of_length_eq_zero h.1
    subst hvs
    exact ⟨g, M, Ext.refl, h, GhLe.refl, fun _ j y u h => by simp at h⟩
  | x :: xs, vs, w, g, ob, us, ob', M, h, he => by
    cases vs with
    | nil => exact absurd h.1 (by simp)
    | cons v vs =>
      simp only [eachM] at he
      split at he
      · rename_i y ob1 h1
        split at he
        · rename_i ys ob2 h2
          obtain ⟨rfl, rfl⟩ : y :: ys = us ∧ ob2 = ob' := by simpa using he
          have hv := h.2 0 v x rfl rfl
          obtain ⟨g1, M1, E1, R1, L1, P1⟩ := hn w g ob v x y ob1 M hv.1 hv.2 h1
          have hr : ARelC w g1 ob1 vs xs := ⟨by simpa using h.1, fun j y u hy hu => ⟨(h.2 (j + 1) y u (by simpa using hy) (by simpa using hu)).1.ext E1, (h.2 (j + 1) y u (by simpa using hy) (by simpa using hu)).2⟩⟩
          obtain ⟨g2, M2, E2, R2, L2, P2⟩ := each_sound hn xs vs w g1 ob1 ys ob2 M1 hr h2
          refine ⟨g2, M2, E1.trans E2 (by rw [L1.len]; exact Nat.le_refl _), ⟨by simp [R2.1], fun j y' u hy hu => ?_⟩, L1.trans L2, fun hk j y' u hy hu => ?_⟩
          · cases j with
            | zero =>
              obtain rfl : v = y' := by simpa using hy
              obtain rfl : y = u := by simpa using hu
              exact ⟨R1.ext E2, hv.2⟩
            | succ j => exact R2.2 j y' u (by simpa using hy) (by simpa using hu)
          · cases j with
            | zero =>
              obtain rfl : v = y' := by simpa using hy
              obtain rfl : y = u := by simpa using hu
              exact (P1 hk).keep E2.A
            | succ j => exact P2 hk j y' u (by simpa using hy) (by simpa using hu)
        · cases he
      · cases he
theorem frz_ok (keep : Bool) : ∀ n, FrzOk keep n
  | 0 => fun w g ob v x y ob' M h ho he => by simp [frz] at he
  | n + 1 => fun w g ob v x y ob' M h ho he => by
    have ih := frz_ok keep n
    cases x with
    | val a =>
      obtain ⟨rfl, rfl⟩ : AV.val a = y ∧ ob = ob' := by simpa [frz] using he
      exact ⟨g, M, Ext.refl, h, GhLe.refl, fun _ => h⟩
    | kb t =>
      obtain ⟨rfl, rfl⟩ : AV.val (.bool t) = y ∧ ob = ob' := by simpa [frz] using he
      obtain rfl : v = .bool t := h
      exact ⟨g, M, Ext.refl, PRel.val _ rfl, GhLe.refl, fun _ => PRel.val _ rfl⟩
    | slc a b =>
      obtain ⟨rfl, rfl⟩ : AV.slc a b = y ∧ ob = ob' := by simpa [frz] using he
      exact ⟨g, M, Ext.refl, h, GhLe.refl, fun _ => h⟩
    | opt a =>
      obtain ⟨rfl, rfl⟩ : AV.opt a = y ∧ ob = ob' := by simpa [frz] using he
      exact ⟨g, M, Ext.refl, h, GhLe.refl, fun _ => h⟩
    | ref a =>
      obtain ⟨rfl, rfl⟩ : AV.ref a = y ∧ ob = ob' := by simpa [frz] using he
      exact ⟨g, M, Ext.refl, h, GhLe.refl, fun _ => h⟩
    | agg cs => exact h.elim
    | tup cs => exact h.elim
    | dead => simp [frz] at he
    | rptr a b c d => simp [frz] at he
    | iter a => simp [frz] at he
    | row id ep =>
      obtain ⟨_, et, sz, fz, e, xs, h1, h2, h3⟩ := h
      simp only [frz, h1] at he
      split at he
      · rename_i hep
        obtain ⟨rfl, rfl⟩ : AV.slc sz xs = y ∧ ob.set id (.row et sz true e xs) = ob' := by simpa using he
        obtain ⟨g', M', E', R', L'⟩ := freeze_row M h1 (h3 hep) (Nat.le_refl _)
        exact ⟨g', M', E', R'.to0, L', fun _ => R'⟩
      · cases he
    | rowk id ep k =>
      obtain ⟨_, et, sz, fz, e, xs, h1, h2, h3⟩ := h
      simp only [frz, h1] at he
      split at he
      · rename_i hep
        have hcut : std.cut xs 0 k = xs.take k.toNat := by simp [std]
        rw [hcut] at he
        obtain ⟨rfl, rfl⟩ : AV.slc sz (xs.take k.toNat) = y ∧ ob.set id (.row et sz true e xs) = ob' := by simpa using he
        obtain ⟨g', M', E', R', L'⟩ := freeze_row M h1 (h3 hep).2.2 (by rw [List.length_take]; omega)
        exact ⟨g', M', E', R'.to0, L', fun _ => R'⟩
      · cases he
    | box id off =>
      simp only [frz] at he
      cases keep with
      | true =>
        obtain ⟨rfl, rfl⟩ : AV.box id off = y ∧ ob = ob' := by simpa using he
        exact ⟨g, M, Ext.refl, h, GhLe.refl, fun hk => by cases hk⟩
      | false =>
        simp only [Bool.false_eq_true, if_false] at he
        obtain ⟨rfl, _⟩ := h
        split at he
        · rename_i cs hb
          obtain ⟨hG, cur, T, hh, hc⟩ := M.box id cs hb
          split at he
          · rename_i us ob1 hes
            obtain ⟨g1, M1, E1, R1, L1, P1⟩ := each_sound ih cs cur.toList w g ob us ob1 M hc hes
            split at he
            · rename_i c1 hb1
              obtain ⟨rfl, rfl⟩ : AV.ref (us.drop off) = y ∧ ob1.set id (.fbox us) = ob' := by simpa using he
              have hul : us.length = cs.length := by rw [← R1.1, hc.1]
              have hcell : ∀ (j : Nat) u, us[j]? = some u → ∃ y, w.cell? ⟨g1.loc id, j, none⟩ = some y ∧ PRel w g1.A y u := fun j u hj => by
                have hjl : j < cur.size := by have := lt_of_some hj; rw [← R1.1] at this; simpa using this
                refine ⟨cur[j], by rw [L1.loc]; simp [World.cell?, hh, hjl], P1 rfl j _ u (by simp [hjl]) hj⟩
              obtain ⟨g2, M2, E2, L2, N2⟩ := freeze_box M1 hb1 hcell
              have R : PRel w g2.A (.pointer (some ⟨g.loc id, off, none⟩)) (.ref (us.drop off)) := by
                have e1 : g1.loc id = g.loc id := by rw [L1.loc]
                refine PRel.ref _ _ _ (fun j => cur.getD (off + j) undef) (fun j u hj => ?_) (fun j u hj => ?_)
                · rw [List.getElem?_drop] at hj
                  obtain ⟨h4, y, h5, h6⟩ := N2 _ u hj
                  rw [e1] at h4 h5
                  have hjl : off + j < cur.size := by have := lt_of_some hj; rw [← R1.1] at this; simpa using this
                  refine ⟨h4, ?_⟩
                  simp [World.cell?, hh, hjl]
                · rw [List.getElem?_drop] at hj
                  obtain ⟨h4, y, h5, h6⟩ := N2 _ u hj
                  rw [e1] at h5
                  have hjl : off + j < cur.size := by have := lt_of_some hj; rw [← R1.1] at this; simpa using this
                  have h7 : cur.getD (off + j) undef = y := by
                    simp only [World.cell?, hh, Option.isSome_none, Bool.false_eq_true, if_false, Array.getElem?_eq_getElem hjl, Option.some.injEq] at h5
                    rw [Array.getD_eq_getD_getElem?, Array.getElem?_eq_getElem hjl]
                    exact h5
                  rw [h7]; exact h6
              exact ⟨g2, M2, E1.trans E2 (by rw [L1.len]; exact Nat.le_refl _), R.to0, L1.trans L2, fun _ => R⟩
            · cases he
          · cases he
        · rename_i cs hb
          obtain ⟨rfl, rfl⟩ : AV.ref (cs.drop off) = y ∧ ob = ob' := by simpa using he
          have R : PRel w g.A (.pointer (some ⟨g.loc id, off, none⟩)) (.ref (cs.drop off)) := by
            obtain ⟨l, h1, h2⟩ := list_of (q := fun j y => ∀ u, (cs.drop off)[j]? = some u → g.A (g.loc id) (off + j) ∧ w.cell? ⟨g.loc id, off + j, none⟩ = some y ∧ PRel w g.A y u) (cs.drop off).length (fun j hj => by
              have hj2 := List.getElem?_eq_getElem hj
              have hj3 := hj2
              rw [List.getElem?_drop] at hj3
              obtain ⟨h4, y, h5, h6⟩ := M.fbox id cs hb _ _ hj3
              exact ⟨y, fun u hu => by rw [hj2] at hu; cases hu; exact ⟨h4, h5, h6⟩⟩)
            have hget : ∀ (j : Nat) u, (cs.drop off)[j]? = some u → l[j]? = some (l.getD j undef) := fun j u hu => by
              have := lt_of_some hu
              rw [List.getD_eq_getElem?_getD, List.getElem?_eq_getElem (by omega)]; rfl
            exact PRel.ref _ _ _ (fun j => l.getD j undef) (fun j u hu => ⟨(h2 j _ (hget j u hu) u hu).1, (h2 j _ (hget j u hu) u hu).2.1⟩) (fun j u hu => (h2 j _ (hget j u hu) u hu).2.2)
          exact ⟨g, M, Ext.refl, R.to0, GhLe.refl, fun _ => R⟩
        · cases he
end
end Go.Proofs.Ytblafdmmebiagaa
namespace Go.Proofs.Ytblafdmmebiagaa
open Go.RowKit Go.Lib
section
variable {w w' : World} {g g' : Gh} {ob ob' : List Ob}
theorem frz1 {keep : Bool} {n : Nat} {v : Value} {x y : AV} (M : Mem w g ob) (h : ARel1 w g ob v x) (hl : x.live = true) (he : frz std keep n ob x = some (y, ob')) :
    ∃ g', Mem w g' ob' ∧ Ext w g ob w g' ob' ∧ ARel1 w g' ob' v y ∧ GhLe g g' ob ob' := by
  have go : ∀ {x : AV}, ARel0 w g ob v x → x.live = true → frz std keep n ob x = some (y, ob') → ∃ g', Mem w g' ob' ∧ Ext w g ob w g' ob' ∧ ARel1 w g' ob' v y ∧ GhLe g g' ob ob' := fun h hl he => by
    obtain ⟨g', h1, h2, h3, h4, _⟩ := frz_ok keep n w g ob v _ y ob' M h (h.one hl) he
    exact ⟨g', h1, h2, h3.to1, h4⟩
  cases x with
  | agg cs =>
    obtain ⟨vs, rfl, hc⟩ := h
    cases n with
    | zero => simp [frz] at he
    | succ n =>
      simp only [frz] at he
      obtain ⟨⟨us, ob1⟩, h1, h2⟩ := Option.map_eq_some_iff.1 he
      obtain ⟨rfl, rfl⟩ : AV.agg us = y ∧ ob1 = ob' := by simpa using h2
      obtain ⟨g', M', E', R', L', _⟩ := each_sound (frz_ok keep n) cs vs.toList w g ob us ob1 M hc h1
      exact ⟨g', M', E', ⟨vs, rfl, R'⟩, L'⟩
  | val a => exact go (x := .val a) h hl he
  | slc a b => exact go (x := .slc a b) h hl he
  | ref a => exact go (x := .ref a) h hl he
  | opt a => exact go (x := .opt a) h hl he
  | tup a => cases hl
  | box a b => exact go (x := .box a b) h hl he
  | row a b => exact go (x := .row a b) h hl he
  | rowk a b c => exact go (x := .rowk a b c) h hl he
  | rptr a b c d => exact go (x := .rptr a b c d) h hl he
  | kb a => exact go (x := .kb a) h hl he
  | iter a => exact go (x := .iter a) h hl he
  | dead => cases hl
def ARelL (w : World) (g : Gh) (ob : List Ob) (vs : List Value) (xs : List AV) : Prop := vs.length = xs.length ∧ ∀ (j : Nat) v x, vs[j]? = some v → xs[j]? = some x → ARel1 w g ob v x
theorem frz_live {keep : Bool} {n : Nat} {x y : AV} (he : frz std keep n ob x = some (y, ob')) : x.live = true := by
  cases n with
  | zero => simp [frz] at he
  | succ n => cases x <;> first | rfl | (simp [frz] at he; done)
theorem ARel.to1 {v : Value} {x : AV} (h : ARel w g ob v x) (hl : x.live = true) : ARel1 w g ob v x := by cases x <;> first | exact h | cases hl
theorem each_live {keep : Bool} {n : Nat} : ∀ (xs : List AV) (ob : List Ob) (ys : List AV) (ob' : List Ob), eachM (frz std keep n) ob xs = some (ys, ob') → ∀ x ∈ xs, x.live = true
  | [], _, _, _, _ => fun x h => by cases h
  | x :: xs, ob, ys, ob', he => by
    simp only [eachM] at he
    split at he
    · rename_i y ob1 h1
      split at he
      · rename_i ys' ob2 h2
        intro z hz
        cases hz with
        | head => exact frz_live h1
        | tail _ hz => exact each_live xs ob1 ys' ob2 h2 z hz
      · cases he
    · cases he
theorem frzL {keep : Bool} {n : Nat} : ∀ (xs : List AV) (vs : List Value) (g : Gh) (ob : List Ob) (ys : List AV) (ob' : List Ob), Mem w g ob → ARelL w g ob vs xs → eachM (frz std keep n) ob xs = some (ys, ob') →
    ∃ g', Mem w g' ob' ∧ Ext w g ob w g' ob' ∧ ARelL w g' ob' vs ys ∧ GhLe g g' ob ob'
  | [], vs, g, ob, ys, ob', M, h, he => by
    obtain ⟨rfl, rfl⟩ : [] = ys ∧ ob = ob' := by simpa [eachM] using he
    exact ⟨g, M, Ext.refl, h, GhLe.refl⟩
  | x :: xs, vs, g, ob, ys, ob', M, h, he => by
    cases vs with
    | nil => exact absurd h.1 (by simp)
    | cons v vs =>
      simp only [eachM] at he
      split at he
      · rename_i y ob1 h1
        split at he
        · rename_i ys' ob2 h2
          obtain ⟨rfl, rfl⟩ : y :: ys' = ys ∧ ob2 = ob' := by simpa using he
          have hv := h.2 0 v x rfl rfl
          have hl : x.live = true := frz_live h1
          obtain ⟨g1, M1, E1, R1, L1⟩ := frz1 M hv hl h1
          have hr : ARelL w g1 ob1 vs xs := ⟨by simpa using h.1, fun j y u hy hu => (h.2 (j + 1) y u (by simpa using hy) (by simpa using hu)).ext E1⟩
          obtain ⟨g2, M2, E2, R2, L2⟩ := frzL xs vs g1 ob1 ys' ob2 M1 hr h2
          refine ⟨g2, M2, E1.trans E2 (by rw [L1.len]; exact Nat.le_refl _), ⟨by simp [R2.1], fun j y' u hy hu => ?_⟩, L1.trans L2⟩
          cases j with
          | zero =>
            obtain rfl : v = y' := by simpa using hy
            obtain rfl : y = u := by simpa using hu
            exact R1.ext E2
          | succ j => exact R2.2 j y' u (by simpa using hy) (by simpa using hu)
        · cases he
      · cases he
theorem frzTop {keep : Bool} {n : Nat} {v : Value} {x y : AV} (M : Mem w g ob) (h : ARel w g ob v x) (he : frz std keep n ob x = some (y, ob')) :
    ∃ g', Mem w g' ob' ∧ Ext w g ob w g' ob' ∧ ARel w g' ob' v y ∧ GhLe g g' ob ob' := by
  obtain ⟨g', h1, h2, h3, h4⟩ := frz1 M (h.to1 (frz_live he)) (frz_live he) he
  exact ⟨g', h1, h2, h3.to, h4⟩
structure Step (w : World) (g : Gh) (ob : List Ob) (w' : World) (g' : Gh) (ob' : List Ob) : Prop where
  os : w'.os = w.os
  tape : w'.tape = w.tape
  output : w'.output = w.output
  size : w.heap.size ≤ w'.heap.size
  keep : ∀ b, b < w.heap.size → g.G b = none → w'.heap[b]? = w.heap[b]?
  own : ∀ b id, g'.G b = some id → (∃ id', g.G b = some id') ∨ w.heap.size ≤ b
  imm : ∀ b o, g'.A b o → g.A b o ∨ (∃ id, g.G b = some id) ∨ w.heap.size ≤ b
  ext : Ext w g ob w' g' ob'
  len : ob.length ≤ ob'.length
theorem Step.refl : Step w g ob w g ob := ⟨rfl, rfl, rfl, Nat.le_refl _, fun _ _ _ => rfl, fun _ _ h => .inl ⟨_, h⟩, fun _ _ h => .inl h, Ext.refl, Nat.le_refl _⟩
theorem Step.trans {w1 w2 w3 : World} {g1 g2 g3 : Gh} {o1 o2 o3 : List Ob} (h : Step w1 g1 o1 w2 g2 o2) (k : Step w2 g2 o2 w3 g3 o3) : Step w1 g1 o1 w3 g3 o3 := by
  have none2 : ∀ b, b < w1.heap.size → g1.G b = none → g2.G b = none := fun b hb hG => by
    cases h2 : g2.G b with
    | none => rfl
    | some id =>
      rcases h.own b id h2 with ⟨id', h3⟩ | h3
      · rw [hG] at h3; cases h3
      · omega
  refine ⟨k.os.trans h.os, k.tape.trans h.tape, k.output.trans h.output, Nat.le_trans h.size k.size, fun b hb hG => ?_, fun b id hG => ?_, fun b o hA => ?_, h.ext.trans k.ext h.len, Nat.le_trans h.len k.len⟩
  · exact (k.keep b (Nat.lt_of_lt_of_le hb h.size) (none2 b hb hG)).trans (h.keep b hb hG)
  · rcases k.own b id hG with ⟨id', h2⟩ | h2
    · exact h.own b id' h2
    · exact .inr (Nat.le_trans h.size h2)
  · rcases k.imm b o hA with h2 | ⟨id, h2⟩ | h2
    · exact h.imm b o h2
    · rcases h.own b id h2 with h3 | h3
      · exact .inr (.inl h3)
      · exact .inr (.inr h3)
    · exact .inr (.inr (Nat.le_trans h.size h2))
theorem Step.ghost (E : Ext w g ob w g' ob') (L : GhLe g g' ob ob') : Step w g ob w g' ob' :=
  ⟨rfl, rfl, rfl, Nat.le_refl _, fun _ _ _ => rfl, fun b id h => .inl ⟨id, L.G b id h⟩, fun b o h => (L.A b o h).imp_right .inl, E, by rw [L.len]; exact Nat.le_refl _⟩
def BCall (P : Program) (f : Nat) (args : List AV) (ob : List Ob) (res : AV) (ob' : List Ob) : Prop :=
  (∀ vs w, (callFunc f vs).run P w = .ok (.enter f vs) w) ∧
  ∀ (w : World) (g : Gh) (vs : List Value), Mem w g ob → ARelL w g ob vs args →
    Calls P f vs.toArray w fun e w' => ∃ v g', e = .returned v ∧ Mem w' g' ob' ∧ ARel w' g' ob' v res ∧ Step w g ob w' g' ob'
structure Sim (w0 : World) (g0 : Gh) (o0 : List Ob) (N : Nat) (s : St) (a : Act) (w : World) : Prop where
  defers : a.defers = []
  size : a.tmps.size = N
  rel : ∃ g, Mem w g s.ob ∧ Slots w g s a ∧ Step w0 g0 o0 w g s.ob
def Ex.conv : Ex → Exit
  | .normal => .normal
  | .exit i => .exit i
  | .ret => .ret
def WP (P : Program) (w0 : World) (g0 : Gh) (o0 : List Ob) (N : Nat) (c : Code) (Q : Ex → St → Prop) (s : St) : Prop :=
  ∀ a w, Sim w0 g0 o0 N s a w → c.wp P (fun e a' w' => ∃ e' s', e = e'.conv ∧ Sim w0 g0 o0 N s' a' w' ∧ Q e' s') a w
def srtV : Value → Option Srt
  | .int k _ => some (.int k)
  | .bool _ => some .boo
  | .string _ => some .str
  | _ => none
def eqV : Value → Value → Bool
  | .int _ a, .int _ b => a == b
  | .bool a, .bool b => a == b
  | .string a, .string b => a.toList == b.toList
  | _, _ => false
def EqOk (P : Program) (T : Nat) (sh : List Srt) : Prop := ∀ (xs ys : List Value) (x y : Operand) (W : World), xs.map srtV = sh.map some → ys.map srtV = sh.map some →
  (eqGuard .eql T x y (.agg xs.toArray) (.agg ys.toArray)).run P W = .ok () W ∧ (eqGuard .neq T x y (.agg xs.toArray) (.agg ys.toArray)).run P W = .ok () W ∧
  (binOp .eql T (.agg xs.toArray) (.agg ys.toArray)).run P W = .ok (.bool ((xs.zip ys).all fun q => eqV q.1 q.2)) W ∧
  (binOp .neq T (.agg xs.toArray) (.agg ys.toArray)).run P W = .ok (.bool !((xs.zip ys).all fun q => eqV q.1 q.2)) W
def Tree.ok (P : Program) (w0 : World) (g0 : Gh) (o0 : List Ob) (N : Nat) (Q : Ex → St → Prop) : Tree → Prop
  | .leaf e s => Q e s
  | .br c t f => (c = true → t.ok P w0 g0 o0 N Q) ∧ (c = false → f.ok P w0 g0 o0 N Q)
  | .need q t => q ∧ t.ok P w0 g0 o0 N Q
  | .call f args ob res ob' t => BCall P f args ob res ob' ∧ t.ok P w0 g0 o0 N Q
  | .loop body s K => WP P w0 g0 o0 N (.loop body) (fun e s' => (K e s').ok P w0 g0 o0 N Q) s
  | .both a b => a.ok P w0 g0 o0 N Q ∧ b.ok P w0 g0 o0 N Q
  | .either q a b => (q → a.ok P w0 g0 o0 N Q) ∧ b.ok P w0 g0 o0 N Q
  | .ask T sh t => EqOk P T sh ∧ t.ok P w0 g0 o0 N Q
  | .stuck _ => False
end
end Go.Proofs.Ytblafdmmebiagaa
namespace Go.Proofs.Ytblafdmmebiagaa
open Go.RowKit Go.Lib
section
variable {w w' : World} {g g' : Gh} {ob ob' : List Ob}
theorem Step.new (M : Mem w g ob) (o : Obj) (x : Ob) : Step w g ob (w.alloc o) (g.new w ob) (ob ++ [x]) := by
  refine ⟨rfl, rfl, rfl, by simp, fun b hb _ => heap_old hb, fun b id hG => ?_, fun b o h => .inl h, Ext.new M o x, by simp⟩
  simp only [Gh.new] at hG
  split at hG
  · rename_i h; exact .inr (by omega)
  · exact .inl ⟨id, hG⟩
theorem setCells_rest (b : Nat) : ∀ (vs : List Value) (o : Nat) (W : World), (W.setCells b o vs).os = W.os ∧ (W.setCells b o vs).tape = W.tape ∧ (W.setCells b o vs).output = W.output
  | [], _, _ => ⟨rfl, rfl, rfl⟩
  | v :: r, o, W => setCells_rest b r (o + 1) (W.setCell ⟨b, o, none⟩ v)
theorem Step.store (M : Mem w g ob) {id : Nat} {cs : List AV} (h : ob[id]? = some (.box cs)) (off : Nat) (vs : List Value) (us : List AV) : Step w g ob (w.setCells (g.loc id) off vs) g (ob.set id (.box us)) := by
  refine ⟨?_, ?_, ?_, by rw [size_setCells]; exact Nat.le_refl _, fun b hb hG => ?_, fun b id hG => .inl ⟨id, hG⟩, fun b o h => .inl h, Ext.store M h off vs us, by simp⟩
  · exact (setCells_rest _ _ _ _).1
  · exact (setCells_rest _ _ _ _).2.1
  · exact (setCells_rest _ _ _ _).2.2
  · have hG' := (M.box id cs h).1
    exact cell_setCells (k := 0) (fun e => by rw [e, hG'] at hG; cases hG)
theorem Step.immNew (M : Mem w g ob) (hb : Below w.heap.size w w') : Step w g ob w' (g.imm w w') ob :=
  ⟨hb.os, hb.tape, hb.output, hb.size, fun b h _ => hb.block b h, fun b id hG => .inl ⟨id, hG⟩, fun b o h => by
    rcases h with h | ⟨h, _⟩
    · exact .inl h
    · exact .inr (.inr h), Ext.immNew M hb, Nat.le_refl _⟩
theorem Step.grow (M : Mem w g ob) {id et sz ep : Nat} {fz fz' : Bool} {xs xs' : List AV} (h : ob[id]? = some (.row et sz fz ep xs))
    {row vb : Option Nat} (hg : w.grownBy w' row) (hrow : ∀ b, row = some b → g.G b = some id) (hvb : ∀ b, vb = some b → row = some b ∨ (w.heap.size ≤ b ∧ b < w'.heap.size)) (E : Ext w g ob w' (g.grow id vb) (ob.set id (.row et sz fz' (ep + 1) xs'))) :
    Step w g ob w' (g.grow id vb) (ob.set id (.row et sz fz' (ep + 1) xs')) :=
  ⟨hg.os, hg.tape, hg.output, hg.size, fun b hb hG => hg.block b hb (fun e => by rw [hrow b e.symm] at hG; cases hG), fun b i hG => by
    rcases Gh.grow_of hG with ⟨h1, _⟩ | ⟨h1, _⟩
    · rcases hvb b h1 with h2 | h2
      · exact .inl ⟨_, hrow b h2⟩
      · exact .inr h2.1
    · exact .inl ⟨i, h1⟩, fun b o h => .inl h, E, by simp⟩
end
section
variable {w : World} {g : Gh} {ob : List Ob}
theorem Ext.reRow {id et sz e : Nat} {fz : Bool} {xs : List AV} (h : ob[id]? = some (.row et sz fz e xs)) (fz' : Bool) (xs' : List AV) : Ext w g ob w g (ob.set id (.row et sz fz' (e + 1) xs')) := by
  have hid := lt_of_some h
  refine ⟨fun b o h => ⟨h, rfl⟩, fun _ _ => rfl, fun i hi => ?_, fun i hi => ?_, fun i et' sz' fz2 e2 xs2 hi => ?_, fun _ _ _ _ => ⟨rfl, fun _ _ h => h⟩⟩
  · have : i ≠ id := by rintro rfl; rw [h] at hi; exact hi
    rw [List.getElem?_set_ne (Ne.symm this)]; exact hi
  · have : i ≠ id := by rintro rfl; rw [h] at hi; exact hi
    rw [List.getElem?_set_ne (Ne.symm this)]; exact hi
  · by_cases e' : i = id
    · subst e'
      rw [h] at hi
      cases hi
      exact ⟨fz', e + 1, xs', List.getElem?_set_self hid, by omega, fun he => by omega⟩
    · exact ⟨fz2, e2, xs2, by rw [List.getElem?_set_ne (Ne.symm e')]; exact hi, Nat.le_refl _, fun _ => ⟨rfl, fun b hG => ⟨hG, rfl⟩⟩⟩
theorem Mem.reRow (M : Mem w g ob) {id et sz e : Nat} {xs : List AV} (h : ob[id]? = some (.row et sz false e xs)) {xs' : List AV} (hw : ∀ x ∈ xs', x.cells.length = sz) : Mem w g (ob.set id (.row et sz false (e + 1) xs')) := by
  have hid := lt_of_some h
  have E := Ext.reRow (w := w) (g := g) h false xs'
  refine ⟨fun i cs hi => ?_, fun i cs hi j u hj => ?_, fun i s p hi => ?_, fun b i hG => ⟨(M.own b i hG).1, by rw [List.length_set]; exact (M.own b i hG).2⟩, fun b o hA => ⟨(M.imm b o hA).1, fun i hGi hs => ?_⟩, fun i et' sz' fz2 e2 xs2 hi => ?_, fun b hs => ?_, M.uniq⟩
  · have e' : i ≠ id := by rintro rfl; rw [List.getElem?_set_self hid] at hi; cases hi
    rw [List.getElem?_set_ne (Ne.symm e')] at hi
    obtain ⟨h1, cur, T, h2, h3⟩ := M.box i cs hi
    exact ⟨h1, cur, T, h2, h3.ext E⟩
  · have e' : i ≠ id := by rintro rfl; rw [List.getElem?_set_self hid] at hi; cases hi
    rw [List.getElem?_set_ne (Ne.symm e')] at hi
    exact M.fbox i cs hi j u hj
  · have e' : i ≠ id := by rintro rfl; rw [List.getElem?_set_self hid] at hi; cases hi
    rw [List.getElem?_set_ne (Ne.symm e')] at hi
    exact M.iter i s p hi
  · obtain ⟨et', sz', e2, xs2, h3, h4⟩ := (M.imm b o hA).2 i hGi hs
    have e' : i ≠ id := by rintro rfl; rw [h] at h3; cases h3
    exact ⟨et', sz', e2, xs2, by rw [List.getElem?_set_ne (Ne.symm e')]; exact h3, h4⟩
  · by_cases e' : i = id
    · subst e'
      rw [List.getElem?_set_self hid] at hi
      cases hi
      exact ⟨(M.roww _ _ _ _ _ _ h).1, hw⟩
    · rw [List.getElem?_set_ne (Ne.symm e')] at hi
      exact M.roww i _ _ _ _ _ hi
  · obtain ⟨i, et', sz', fz2, e2, xs2, h3, h4⟩ := M.nsub b hs
    by_cases e' : i = id
    · subst e'
      exact ⟨i, _, _, _, _, _, h3, List.getElem?_set_self hid⟩
    · exact ⟨i, et', sz', fz2, e2, xs2, h3, by rw [List.getElem?_set_ne (Ne.symm e')]; exact h4⟩
end
section
variable {P : Program} {ty : Tys} {w0 : World} {g0 : Gh} {o0 : List Ob} {N : Nat} {Q : Ex → St → Prop}
def quietW (ty : Tys) : Op → Bool
  | .store _ _ _ | .next _ _ => false
  | .call { callee := .builtin .append, .. } => false
  | .call { callee := .value _, argTypes, .. } => !argTypes.toList.any (ptrT ty)
  | .convert s d _ => !(s == d && (tyLook s ty).sl)
  | _ => true
def Good (ty : Tys) (P : Program) (w0 : World) (g0 : Gh) (o0 : List Ob) (N : Nat) (Q : Ex → St → Prop) (K : St → Tree) (op : Op) (w1 : World) (a : Act) (w : World) : Prop := (quietW ty op = true → LeB w1 w) ∧ ∃ s, Sim w0 g0 o0 N s a w ∧ (K s).ok P w0 g0 o0 N Q
theorem slots_put {w w' : World} {g g' : Gh} {s : St} {ob' : List Ob} {a : Act} (hS : Slots w g s a) (E : Ext w g s.ob w' g' ob') {d : Option Nat} (hd : ∀ t, d = some t → t < a.tmps.size) {v : Value} {x : AV} (hv : ARel w' g' ob' v x) :
    Slots w' g' (St.put ⟨s.tm, ob'⟩ d x) (a.put d v) := by
  intro t
  cases d with
  | none => exact (hS t).ext E
  | some d =>
    have hlt := hd d rfl
    show ARel w' g' ob' ((a.tmps.setIfInBounds d v).getD t undef) (if t = d then x else lk t s.tm)
    by_cases e : t = d
    · subst e
      rw [if_pos rfl]
      have : (a.tmps.setIfInBounds t v).getD t undef = v := by simp [Array.getD_eq_getD_getElem?, hlt]
      rw [this]; exact hv
    · rw [if_neg e]
      have : (a.tmps.setIfInBounds d v).getD t undef = a.tmps.getD t undef := by
        simp only [Array.getD_eq_getD_getElem?]
        rw [Array.getElem?_setIfInBounds_ne (Ne.symm e)]
      rw [this]; exact (hS t).ext E
theorem sim_put {s : St} {a : Act} {w w' : World} {g g' : Gh} {ob' : List Ob} (hs : Sim w0 g0 o0 N s a w) (hS : Slots w g s a) (h0 : Step w0 g0 o0 w g s.ob) (M' : Mem w' g' ob') (h1 : Step w g s.ob w' g' ob')
    {d : Option Nat} (hd : ∀ t, d = some t → t < N) {v : Value} {x : AV} (hv : ARel w' g' ob' v x) : Sim w0 g0 o0 N (St.put ⟨s.tm, ob'⟩ d x) (a.put d v) w' := by
  refine ⟨?_, ?_, g', ?_, slots_put hS h1.ext (fun t ht => by rw [hs.size]; exact hd t ht) hv, ?_⟩
  · cases d <;> exact hs.defers
  · cases d with
    | none => exact hs.size
    | some d => show (a.tmps.setIfInBounds d v).size = N; rw [Array.size_setIfInBounds]; exact hs.size
  · cases d <;> exact M'
  · cases d <;> exact h0.trans h1
theorem run_valW {S : Sem Value} {W W' : World} {v : Value} (h : S.run P W = .ok v W') : (do pure (Next.value (← S)) : Sem Next).run P W = .ok (.value v) W' := by
  rw [Sem.run_bind, h]; rfl
theorem wp_ok {o : Oper} {a : Act} {w w' : World} {K : Act → World → Prop} {R : Exit → Act → World → Prop} {v : Value} (h : (execOp a.eval o).run P w = .ok (.value v) w') (hk : K (a.put o.dst v) w') : o.wp P a w K R := by
  unfold Oper.wp
  rw [h]
  exact hk
theorem commit_sim {s : St} {a : Act} {w : World} (x : Operand) (hs : Sim w0 g0 o0 N s a w) : Sim w0 g0 o0 N (commit std s x) a w := by
  unfold commit
  split
  · rename_i t
    split
    · rename_i id ep k hv
      split
      · rename_i et sz e xs hob
        split
        · rename_i he
          subst he
          obtain ⟨g, M, hS, h0⟩ := hs.rel
          have hr := hS t
          rw [hv] at hr
          obtain ⟨h1, et', sz', fz', e', xs', h2, h3, h4⟩ := hr
          rw [hob] at h2; cases h2
          obtain ⟨h5, h6, h7⟩ := h4 rfl
          have ec : std.cut xs 0 k = xs.take k.toNat := by simp [std]
          have E := Ext.reRow (w := w) (g := g) hob false (std.cut xs 0 k)
          have M' := M.reRow hob (xs' := std.cut xs 0 k) (fun y hy => (M.roww _ _ _ _ _ _ hob).2 y (by rw [ec] at hy; exact List.mem_of_mem_take hy))
          refine ⟨hs.defers, hs.size, g, M', fun u => ?_, h0.trans ⟨rfl, rfl, rfl, Nat.le_refl _, fun _ _ _ => rfl, fun b id h => .inl ⟨id, h⟩, fun b o h => .inl h, E, by simp⟩⟩
          show ARel w g _ _ (if u = t then .row id (e + 1) else lk u s.tm)
          by_cases eu : u = t
          · subst eu
            rw [if_pos rfl]
            exact ⟨h1, et, sz, false, e + 1, _, List.getElem?_set_self (lt_of_some hob), Nat.le_refl _, fun _ => by rw [ec]; exact h7⟩
          · rw [if_neg eu]; exact (hS u).ext E
        · exact hs
      · exact hs
    · exact hs
  · exact hs
theorem op_still {K : St → Tree} {o : Oper} {s : St} {a : Act} {w : World} {R : Exit → Act → World → Prop} (hs : Sim w0 g0 o0 N s a w) (hd : ∀ t, o.dst = some t → t < N)
    {x : AV} (hy : ∀ g, Mem w g s.ob → Slots w g s a → Yld P w g s a o (readsM o.op) x) (hok : (K (St.put s o.dst x)).ok P w0 g0 o0 N Q) : o.wp P a w (Good ty P w0 g0 o0 N Q K o.op w) R := by
  obtain ⟨g, M, hS, h0⟩ := hs.rel
  obtain ⟨v, h1, h2⟩ := hy g M hS
  exact wp_ok (h1 w (fun _ => LeB.refl w)) ⟨fun _ => LeB.refl w, _, sim_put hs hS h0 M Step.refl hd h2, hok⟩
theorem op_alloc (hT : TyOk P ty) {K : St → Tree} {o : Oper} {s : St} {a : Act} {w : World} {R : Exit → Act → World → Prop} (hs : Sim w0 g0 o0 N s a w) (hd : ∀ t, o.dst = some t → t < N)
    {T : Nat} (ho : o.op = .alloc T) (hk : (tyLook T ty).ok = true) (hok : (K (St.put ⟨s.tm, s.ob ++ [.box ((tyLook T ty).zero.map .val)]⟩ o.dst (.box s.ob.length 0))).ok P w0 g0 o0 N Q) : o.wp P a w (Good ty P w0 g0 o0 N Q K o.op w) R := by
  obtain ⟨g, M, hS, h0⟩ := hs.rel
  have ti := ty_ok hT hk
  obtain ⟨z, hz, hzr⟩ := ti.zeroV
  have hr : (execOp a.eval o).run P w = .ok (.value (.pointer (some ⟨w.heap.size, 0, none⟩))) (w.alloc (.cells z.cells T)) := by
    simp only [execOp, ho]
    refine run_valW ?_
    simp only [Instr.alloc, Sem.run_bind, hzr, Result.andThen_ok, newVar, newRow, run_newObj, Sem.run_pure]
    rfl
  have hc : ARelC w g s.ob z.cells.toList ((tyLook T ty).zero.map .val) := by rw [hz]; exact zero_rel ti.zone
  have M' := M.new (.cells z.cells T) (.box ((tyLook T ty).zero.map .val)) (fun cs h => by cases h; exact ⟨_, _, rfl, hc⟩) (fun cs h => by cases h) (fun s p h => by cases h) (fun et sz fz e xs h => by cases h)
  refine wp_ok hr ⟨fun _ => (Below.refl _ w).alloc (Nat.le_refl _) _, _, sim_put hs hS h0 M' (Step.new M _ _) hd ?_, hok⟩
  refine ⟨by simp [Gh.new], ?_⟩
  rw [get_new]; trivial
theorem op_box {K : St → Tree} {o : Oper} {s : St} {a : Act} {w : World} {R : Exit → Act → World → Prop} (hs : Sim w0 g0 o0 N s a w) (hd : ∀ t, o.dst = some t → t < N)
    {T : Nat} {x : Operand} (ho : o.op = .box T x) (hl : (ev s x).live = true) (hok : (K (St.put ⟨s.tm, s.ob ++ [.box (ev s x).cells]⟩ o.dst (.box s.ob.length 0))).ok P w0 g0 o0 N Q) : o.wp P a w (Good ty P w0 g0 o0 N Q K o.op w) R := by
  obtain ⟨g, M, hS, h0⟩ := hs.rel
  have hr : (execOp a.eval o).run P w = .ok (.value (.pointer (some ⟨w.heap.size, 0, none⟩))) (w.alloc (.cells (a.eval x).cells T)) := by
    simp only [execOp, ho]
    refine run_valW ?_
    simp only [Instr.box, Sem.run_bind, Result.andThen_ok, newVar, newRow, run_newObj, Sem.run_pure]
    rfl
  have hc := (ev_rel hS x).cells hl
  have M' := M.new (.cells (a.eval x).cells T) (.box (ev s x).cells) (fun cs h => by cases h; exact ⟨_, _, rfl, hc⟩) (fun cs h => by cases h) (fun s p h => by cases h) (fun et sz fz e xs h => by cases h)
  refine wp_ok hr ⟨fun _ => (Below.refl _ w).alloc (Nat.le_refl _) _, _, sim_put hs hS h0 M' (Step.new M _ _) hd ?_, hok⟩
  refine ⟨by simp [Gh.new], ?_⟩
  rw [get_new]; trivial
theorem op_store (hT : TyOk P ty) {K : St → Tree} {o : Oper} {s : St} {a : Act} {w : World} {R : Exit → Act → World → Prop} (hs : Sim w0 g0 o0 N s a w) (hd : ∀ t, o.dst = some t → t < N)
    {T : Nat} {x y : Operand} (ho : o.op = .store T x y) {id off : Nat} {c : List AV} (hx : ev s x = .box id off) (hb : s.ob[id]? = some (.box c)) (hl : (ev s y).live = true) (hk : (tyLook T ty).ok = true)
    (hsz : (ev s y).cells.length = (tyLook T ty).size) (hle : off + (ev s y).cells.length ≤ c.length)
    (hok : (K (St.put ⟨s.tm, s.ob.set id (.box (setCells c off (ev s y).cells))⟩ o.dst .dead)).ok P w0 g0 o0 N Q) : o.wp P a w (Good ty P w0 g0 o0 N Q K o.op w) R := by
  obtain ⟨g, M, hS, h0⟩ := hs.rel
  have hc := (ev_rel hS y).cells hl
  have hxr := ev_rel hS x
  rw [hx] at hxr
  have hv : a.eval x = .pointer (some ⟨g.loc id, off, none⟩) := hxr.1
  obtain ⟨hG, cur, T', hh, hcur⟩ := M.box id c hb
  have hlen : (a.eval y).cells.size = (ev s y).cells.length := by simpa using hc.1
  have hcl : cur.size = c.length := by simpa using hcur.1
  have h1 : ∀ v ∈ (a.eval y).cells.toList, v.oneCell' = true := fun v hv => by
    obtain ⟨j, hj, rfl⟩ := List.mem_iff_getElem.1 hv
    exact (hc.2 j _ _ (List.getElem?_eq_getElem hj) (List.getElem?_eq_getElem (by rw [← hc.1]; exact hj))).2
  have hst := run_storeCells_cells (P := P) (g.loc id) off (a.eval y).cells.toList 0 w (fun j hj => by
      have : off + j < cur.size := by simp at hj; omega
      simp [World.cell?, hh, this]) (fun j hj => by simp [World.frozen?, hh]) h1
  rw [Nat.add_zero] at hst
  have hsT := (ty_ok hT hk).size w
  have hr : (execOp a.eval o).run P w = .ok .skip (w.setCells (g.loc id) off (a.eval y).cells.toList) := by
    have hne : ¬ ((a.eval y).cells.size ≠ (tyLook T ty).size) := by omega
    simp only [execOp, ho, Instr.storeAt, hv, Instr.sureAddr, storeVar, Sem.run_bind, Sem.run_pure, Result.andThen_ok, hsT, hne, if_false, hst]
  have M' := M.store hb hc hle
  have : (execOp a.eval o).run P w = .ok .skip (w.setCells (g.loc id) off (a.eval y).cells.toList) := hr
  unfold Oper.wp
  rw [hr]
  show Good ty P w0 g0 o0 N Q K o.op w (a.put o.dst undef) _
  exact ⟨fun h => by simp [ho, quietW] at h, _, sim_put hs hS h0 M' (Step.store M hb _ _ _) hd (v := undef) (x := .dead) trivial, hok⟩
theorem nilq_sound (hT : TyOk P ty) {w : World} {s : St} {a : Act} {K : St → Tree} {o : Oper} {op : BinOp} {T T' : Nat} {x y : Operand} (ho : o.op = .binOp op T x y T')
    {xs : List AV} (hn : nilq s x y = some xs) (hk : (tyLook T ty).kd = 2) (b : Bool) (hop : op = if b then .eql else .neq)
    (hok : (std.emp xs → (K (St.put s o.dst (.val (.bool b)))).ok P w0 g0 o0 N Q) ∧ (K (St.put s o.dst (.val (.bool !b)))).ok P w0 g0 o0 N Q) :
    ∃ z, (K (St.put s o.dst z)).ok P w0 g0 o0 N Q ∧ ∀ g rd, Slots w g s a → Yld P w g s a o rd z := by
  unfold nilq at hn
  split at hn
  · rename_i sz xs' n c hx hy
    obtain rfl : xs' = xs := by simpa using hn
    by_cases hg : ∃ g, Slots w g s a
    · obtain ⟨g, hS⟩ := hg
      have hxr := ev_rel hS x
      have hyr := ev_rel hS y
      rw [hx] at hxr
      rw [hy] at hyr
      have hyv := hyr.valEq
      have hxr : PRel w g.A (a.eval x) (.slc sz xs') := hxr
      generalize hv : a.eval x = v at hxr
      cases hxr with
      | nil =>
        refine ⟨_, hok.1 rfl, fun g rd _ => yld_bin (u := .slice none 0 0) ho hv hyv (by simp) (by simp) (r := .bool b) (fun W => ?_) rfl⟩
        have := eq_slice_nil (P := P) hT hk none 0 0 n c W
        subst hop
        cases b
        · exact this.2
        · exact this.1
      | slc bk of cp _ _ f hc hm hw hcell hrel =>
        refine ⟨_, hok.2, fun g rd _ => yld_bin ho hv hyv (by simp) (by simp) (r := .bool !b) (fun W => ?_) rfl⟩
        have := eq_slice_nil (P := P) hT hk (some ⟨bk, of, none⟩) xs'.length cp n c W
        subst hop
        cases b
        · exact this.2
        · exact this.1
    · exact ⟨_, hok.2, fun g rd hS => absurd ⟨g, hS⟩ hg⟩
  · cases hn
theorem eqCs_vals {w : World} {g : Gh} {ob : List Ob} : ∀ (cs ds : List AV) (us vs : List Value) (sh : List Srt) (b : Bool), eqCs std cs ds = some (sh, b) → ARelC w g ob us cs → ARelC w g ob vs ds →
    us.map srtV = sh.map some ∧ vs.map srtV = sh.map some ∧ b = (us.zip vs).all fun q => eqV q.1 q.2
  | [], [], us, vs, sh, b, h, hu, hv => by
    obtain ⟨rfl, rfl⟩ : [] = sh ∧ true = b := by simpa [eqCs] using h
    obtain rfl : us = [] := List.eq_nil_of_length_eq_zero hu.1
    obtain rfl : vs = [] := List.eq_nil_of_length_eq_zero hv.1
    exact ⟨rfl, rfl, rfl⟩
  | [], _ :: _, _, _, _, _, h, _, _ => by cases h
  | _ :: _, [], _, _, _, _, h, _, _ => by cases h
  | x :: r, y :: r', us, vs, sh, b, h, hu, hv => by
    cases us with
    | nil => exact absurd hu.1 (by simp)
    | cons u us =>
      cases vs with
      | nil => exact absurd hv.1 (by simp)
      | cons v vs =>
        simp only [eqCs] at h
        split at h
        · rename_i s1 b1 s2 b2 h1 h2
          obtain ⟨rfl, rfl⟩ : s1 :: s2 = sh ∧ std.andB b1 b2 = b := by simpa using h
          obtain ⟨i1, i2, i3⟩ := eqCs_vals r r' us vs s2 b2 h2 ⟨by simpa using hu.1, fun j a c ha hc => hu.2 (j + 1) a c (by simpa using ha) (by simpa using hc)⟩ ⟨by simpa using hv.1, fun j a c ha hc => hv.2 (j + 1) a c (by simpa using ha) (by simpa using hc)⟩
          have hu0 := (hu.2 0 u x rfl rfl).1
          have hv0 := (hv.2 0 v y rfl rfl).1
          unfold eqC at h1
          split at h1
          · rename_i k a k' c
            split at h1
            · rename_i hk
              subst hk
              obtain ⟨rfl, rfl⟩ : Srt.int k = s1 ∧ std.eqI a c = b1 := by simpa using h1
              cases (show u = _ from ARel.valEq (g := g) (w := w) (ob := ob) hu0)
              cases (show v = _ from ARel.valEq (g := g) (w := w) (ob := ob) hv0)
              exact ⟨by simp [srtV, i1], by simp [srtV, i2], by rw [i3]; rfl⟩
            · cases h1
          · rename_i a c
            obtain ⟨rfl, rfl⟩ : Srt.boo = s1 ∧ std.eqB a c = b1 := by simpa using h1
            cases (show u = _ from ARel.valEq (g := g) (w := w) (ob := ob) hu0)
            cases (show v = _ from ARel.valEq (g := g) (w := w) (ob := ob) hv0)
            exact ⟨by simp [srtV, i1], by simp [srtV, i2], by rw [i3]; rfl⟩
          · rename_i a c
            obtain ⟨rfl, rfl⟩ : Srt.str = s1 ∧ std.eqS a c = b1 := by simpa using h1
            cases (show u = _ from ARel.valEq (g := g) (w := w) (ob := ob) hu0)
            cases (show v = _ from ARel.valEq (g := g) (w := w) (ob := ob) hv0)
            exact ⟨by simp [srtV, i1], by simp [srtV, i2], by rw [i3]; rfl⟩
          · cases h1
        · cases h
theorem eqAgg_sound {w : World} {s : St} {a : Act} {o : Oper} {op : BinOp} {T T' : Nat} {x y : Operand} (ho : o.op = .binOp op T x y T') {sh : List Srt} {b : Bool} (h : eqAgg std s op x y = some (sh, b)) (he : EqOk P T sh) {g : Gh} {rd : Bool} (hS : Slots w g s a) :
    Yld P w g s a o rd (.val (.bool b)) := by
  unfold eqAgg at h
  split at h
  · rename_i cs ds hx hy
    split at h
    · rename_i sh' b' hc
      have hxr := ev_rel hS x
      have hyr := ev_rel hS y
      rw [hx] at hxr
      rw [hy] at hyr
      obtain ⟨us, hu, hur⟩ := hxr
      obtain ⟨vs, hv, hvr⟩ := hyr
      obtain ⟨e1, e2, e3⟩ := eqCs_vals cs ds us.toList vs.toList sh' b' hc hur hvr
      split at h
      · obtain ⟨rfl, rfl⟩ : sh' = sh ∧ b' = b := by simpa using h
        refine yld_of (S := do eqGuard .eql T x y (a.eval x) (a.eval y); binOp .eql T (a.eval x) (a.eval y)) (fun W => by simp only [execOp, ho]) ⟨.bool b', fun W _ => ?_, .val _ rfl⟩
        obtain ⟨h1, _, h3, _⟩ := he us.toList vs.toList x y W e1 e2
        rw [Sem.run_bind, hu, hv, h1]
        rw [e3]; exact h3
      · obtain ⟨rfl, rfl⟩ : sh' = sh ∧ std.notB b' = b := by simpa using h
        refine yld_of (S := do eqGuard .neq T x y (a.eval x) (a.eval y); binOp .neq T (a.eval x) (a.eval y)) (fun W => by simp only [execOp, ho]) ⟨.bool !b', fun W _ => ?_, .val _ rfl⟩
        obtain ⟨_, h2, _, h4⟩ := he us.toList vs.toList x y W e1 e2
        rw [Sem.run_bind, hu, hv, h2]
        rw [e3]; exact h4
      · cases h
    · cases h
  · cases h
theorem nilq_ok (hT : TyOk P ty) {w : World} {s : St} {a : Act} {cs : Nat → List AV → List Ob → Option (AV × List Ob)} {K : St → Tree} {o : Oper} {op : BinOp} {T T' : Nat} {x y : Operand} (ho : o.op = .binOp op T x y T')
    (hok : (aop std ty cs K o s).ok P w0 g0 o0 N Q) :
    (aopRest std ty K o s o.op).ok P w0 g0 o0 N Q ∨ ∃ z, (K (St.put s o.dst z)).ok P w0 g0 o0 N Q ∧ ∀ g rd, Slots w g s a → Yld P w g s a o rd z := by
  simp only [aop, ho] at hok
  split at hok
  · rename_i xs hn
    right
    split at hok
    · rename_i hk
      split at hok
      · exact nilq_sound hT ho hn hk true rfl hok
      · exact nilq_sound hT ho hn hk false rfl hok
      · exact hok.elim
    · exact hok.elim
  · split at hok
    · rename_i sh b he
      exact .inr ⟨_, hok.2, fun g rd hS => eqAgg_sound ho he hok.1 hS⟩
    · left; rw [ho]; exact hok
theorem thaw_sim {s : St} {a : Act} {w : World} (x : Operand) (hs : Sim w0 g0 o0 N s a w) : Sim w0 g0 o0 N (thaw std s x) a w := by
  have go : ∀ (t : Nat) (v : AV) (ob : List Ob), frz std true 9 s.ob (lk t s.tm) = some (v, ob) → Sim w0 g0 o0 N ⟨(t, v) :: s.tm, ob⟩ a w := fun t v ob he => by
    obtain ⟨g, M, hS, h0⟩ := hs.rel
    obtain ⟨g', M', E, hr, hL⟩ := frzTop M (hS t) he
    refine ⟨hs.defers, hs.size, g', M', fun u => ?_, h0.trans (Step.ghost E hL)⟩
    show ARel w g' _ _ (if u = t then v else lk u s.tm)
    by_cases eu : u = t
    · subst eu
      rw [if_pos rfl]
      exact hr
    · rw [if_neg eu]; exact (hS u).ext E
  unfold thaw
  split
  · rename_i t
    split
    · rename_i id ep hv
      split
      · rename_i v ob he
        exact go t v ob (by rw [hv]; exact he)
      · exact hs
    · rename_i id ep k hv
      split
      · rename_i v ob he
        exact go t v ob (by rw [hv]; exact he)
      · exact hs
    · exact hs
  · exact hs
end
end Go.Proofs.Ytblafdmmebiagaa
namespace Go.Proofs.Ytblafdmmebiagaa
open Go.RowKit Go.Lib
section
variable {P : Program} {ty : Tys} {w0 : World} {g0 : Gh} {o0 : List Ob} {N : Nat} {Q : Ex → St → Prop} {w w' : World} {g g' : Gh} {ob ob' : List Ob}
theorem pur0_rel {v : Value} {x : AV} (h : ARel0 w g ob v x) (hp : x.pur0 = true) : PRel w g.A v x := by cases x <;> first | exact h | cases hp
theorem pur_alike {vs : List Value} {x : AV} {v : Value} (h : ARel1 w g ob v x) (hp : x.pur = true) : Alike w g.A v.cells.toList x.cells := by
  have hl : x.live = true := by cases x <;> first | rfl | cases hp
  have hc := h.to.cells hl
  refine ⟨hc.1, fun j y u hy hu => pur0_rel (hc.2 j y u hy hu).1 ?_⟩
  have hm := List.mem_of_getElem? hu
  cases x with
  | agg cs => exact List.all_eq_true.1 hp u hm
  | val a => obtain rfl : u = AV.val a := by simpa [AV.cells] using hm
             rfl
  | slc a b => obtain rfl : u = AV.slc a b := by simpa [AV.cells] using hm
               rfl
  | opt a => obtain rfl : u = AV.opt a := by simpa [AV.cells] using hm
             rfl
  | ref a => obtain rfl : u = AV.ref a := by simpa [AV.cells] using hm
             rfl
  | _ => cases hp
theorem fillDense {sz : Nat} : ∀ (vs : List Value) (k : Nat) (c : Array Value), (∀ v ∈ vs, v.cells.size = sz) → (k + vs.length) * sz ≤ c.size →
    ∃ c', Instr.fill (fun i => some (i * sz, sz)) c ((vs.zipIdx k).map fun x => (x.2, x.1)) = some c' ∧ c'.toList = c.toList.take (k * sz) ++ (vs.flatMap (·.cells.toList) ++ c.toList.drop ((k + vs.length) * sz))
  | [], k, c, _, _ => ⟨c, rfl, by simp⟩
  | v :: r, k, c, hv, hl => by
    have h1 := hv v List.mem_cons_self
    have hle : k * sz + sz ≤ c.size := by
      have : (k + 1) * sz ≤ (k + (v :: r).length) * sz := Nat.mul_le_mul_right _ (by simp)
      rw [Nat.add_mul, Nat.one_mul] at this
      omega
    have hfo := fold_set (k * sz) v.cells.toList 0 c
    have e1 : (v.cells.toList.take (c.size - (k * sz + 0))) = v.cells.toList := List.take_of_length_le (by simp; omega)
    rw [e1, Nat.add_zero, Array.length_toList, h1] at hfo
    generalize hc2 : (v.cells.toList.zipIdx 0).foldl (fun cs (x : Value × Nat) => cs.setIfInBounds (k * sz + x.2) x.1) c = c2 at hfo
    have hsz2 : c2.size = c.size := by
      have := congrArg List.length hfo
      simp only [Array.length_toList, List.length_append, List.length_take, List.length_drop, h1] at this
      omega
    obtain ⟨c', h3, h4⟩ := fillDense r (k + 1) c2 (fun v h => hv v (List.mem_cons_of_mem _ h)) (by rw [hsz2]; simpa [Nat.add_assoc, Nat.add_comm 1] using hl)
    refine ⟨c', ?_, ?_⟩
    · simp only [List.zipIdx_cons, List.map_cons, Instr.fill]
      rw [if_neg]
      · rw [← h3, ← hc2]
        congr 1
        rw [← Array.foldl_toList, Array.toList_zipIdx]
      · simp only [Bool.or_eq_true, decide_eq_true_eq, bne_iff_ne, ne_eq, not_or]
        omega
    · rw [h4, hfo]
      have e2 : (k + 1) * sz = k * sz + sz := by rw [Nat.add_mul, Nat.one_mul]
      have e3 : (k + 1 + r.length) * sz = k * sz + sz + r.length * sz := by rw [Nat.add_mul, e2]
      have e4 : (k + (v :: r).length) * sz = k * sz + sz + r.length * sz := by rw [List.length_cons, ← e3]; congr 1; omega
      have h5 : (c.toList.take (k * sz)).length = k * sz := by rw [List.length_take, Array.length_toList]; omega
      rw [e2, e3, e4, List.flatMap_cons]
      have h6 : (v.cells.toList).length = sz := by rw [Array.length_toList, h1]
      generalize hX : c.toList.take (k * sz) = X at h5
      have t1 : (X ++ (v.cells.toList ++ c.toList.drop (k * sz + sz))).take (k * sz + sz) = X ++ v.cells.toList := by
        rw [← List.append_assoc]
        exact List.take_left' (by rw [List.length_append]; omega)
      have t2 : (X ++ (v.cells.toList ++ c.toList.drop (k * sz + sz))).drop (k * sz + sz + r.length * sz) = c.toList.drop (k * sz + sz + r.length * sz) := by
        rw [← List.append_assoc, List.drop_append, List.drop_eq_nil_of_le (by rw [List.length_append]; omega), List.nil_append, List.length_append, h5, h6, Nat.add_sub_cancel_left, List.drop_drop]
      rw [t1, t2]
      simp only [List.append_assoc]
theorem flatMap_alike {A : Nat → Nat → Prop} : ∀ (vs : List Value) (xs : List AV), vs.length = xs.length → (∀ (j : Nat) v x, vs[j]? = some v → xs[j]? = some x → Alike w A v.cells.toList x.cells) → Alike w A (vs.flatMap (·.cells.toList)) (flatA xs)
  | [], xs, hl, _ => by
    have : xs = [] := List.eq_nil_of_length_eq_zero hl.symm
    subst this; exact Alike.nil
  | v :: vs, [], hl, _ => by simp at hl
  | v :: vs, x :: xs, hl, h => by
    rw [List.flatMap_cons, flatA, List.flatMap_cons]
    exact (h 0 v x rfl rfl).append (flatMap_alike vs xs (by simpa using hl) (fun j v x h1 h2 => h (j + 1) v x (by simpa using h1) (by simpa using h2)))
theorem KidV.nil {id : Nat} : KidV w g id (.slice none 0 0) := ⟨0, [], World.ownsRow_nil _ _ _ _, fun b h => by cases h⟩
theorem Mem.sub_lt (M : Mem w g ob) {b : Nat} (h : g.sub b = true) : b < w.heap.size := by
  obtain ⟨id, _, _, _, _, _, h1, _⟩ := M.nsub b h
  exact (M.own b id h1).1
theorem Mem.sub_new (M : Mem w g ob) {b : Nat} (h : w.heap.size ≤ b) : g.sub b = false := by
  cases hs : g.sub b with
  | false => rfl
  | true => have := M.sub_lt hs; omega
theorem kidsNil_cell {sz : Nat} : ∀ (xs : List AV), kidsNil xs = true → (∀ x ∈ xs, x.cells.length = sz) → ∀ (j : Nat) u, (flatA xs)[j]? = some u → j % sz = 1 → u = .val (.slice none 0 0)
  | [], _, _, j, u, h, _ => by simp at h
  | x :: r, hk, hw, j, u, h, hj => by
    unfold kidsNil at hk
    split at hk
    · rename_i a hc
      have hx := hw x (List.mem_cons_self ..)
      have e : flatA (x :: r) = a :: .val (.slice none 0 0) :: flatA r := by simp [hc]
      rw [e] at h
      obtain rfl : 2 = sz := by rw [hc] at hx; exact hx
      match j, h, hj with
      | 0, _, hj => cases hj
      | 1, h, _ => simpa using h.symm
      | j + 2, h, hj => exact kidsNil_cell r hk (fun y hy => hw y (List.mem_cons_of_mem _ hy)) j u (by simpa using h) (by omega)
    · cases hk
theorem nil_kids {E sz : Nat} {xs : List AV} {ys : List Value} (hs : subOk E xs = true) (hal : Alike w g.A ys (flatA xs)) (hw : ∀ x ∈ xs, x.cells.length = sz) (he : E = subT) {j : Nat} {y : Value} (hy : ys[j]? = some y) (hj : j % sz = 1) :
    y = .slice none 0 0 := by
  simp only [subOk, he, if_true] at hs
  have hl : j < (flatA xs).length := by rw [← hal.1]; exact lt_of_some hy
  have hu := List.getElem?_eq_getElem hl
  have := hal.2 j y _ hy hu
  rw [kidsNil_cell xs hs hw j _ hu hj] at this
  exact (show y = _ from ARel.valEq (g := g) (w := w) (ob := []) this)
theorem op_buildSlice (hT : TyOk P ty) {K : St → Tree} {o : Oper} {s : St} {a : Act} {w : World} {R : Exit → Act → World → Prop} (hs : Sim w0 g0 o0 N s a w) (hd : ∀ t, o.dst = some t → t < N)
    {T len : Nat} {parts : Array (Nat × Operand)} (ho : o.op = .buildSlice T len parts) {xs : List AV} {ob : List Ob} (he : eachM (frz std true 9) s.ob (parts.toList.map fun x => ev s x.2) = some (xs, ob))
    (hsub : subOk (tyLook T ty).elem xs = true) (hel : elOk ty T (tyLook (tyLook T ty).elem ty).size = true) (h1 : onePer (tyLook (tyLook T ty).elem ty).size xs = true) (hp : xs.all AV.pur = true) (hlen : len ≤ 4000) (hsz : (tyLook (tyLook T ty).elem ty).size ≤ 4000)
    (hi : parts.toList.map (·.1) = List.range len)
    (hok : (K (St.put ⟨s.tm, ob ++ [.row (tyLook T ty).elem (tyLook (tyLook T ty).elem ty).size false 0 xs]⟩ o.dst (.row ob.length 0))).ok P w0 g0 o0 N Q) : o.wp P a w (Good ty P w0 g0 o0 N Q K o.op w) R := by
  obtain ⟨g, M, hS, h0⟩ := hs.rel
  have hL : ARelL w g s.ob (parts.toList.map fun x => a.eval x.2) (parts.toList.map fun x => ev s x.2) := by
    refine ⟨by simp, fun j v x hv hx => ?_⟩
    rw [List.getElem?_map, Option.map_eq_some_iff] at hv hx
    obtain ⟨q, hq, rfl⟩ := hv
    obtain ⟨q', hq', rfl⟩ := hx
    rw [hq] at hq'; cases hq'
    have hr := ev_rel hS q.2
    exact hr.to1 (each_live _ _ _ _ he _ (List.mem_map.2 ⟨q, List.mem_of_getElem? hq, rfl⟩))
  obtain ⟨g1, M1, E1, L1, G1⟩ := frzL _ _ g s.ob xs ob M hL he
  obtain ⟨e, hu, hee, te, hes, hpos⟩ := el_facts hT hel
  obtain ⟨ie, z, hie, hies, hieb, hiz, hzc⟩ := te.i
  rw [hes] at hies
  subst hee
  generalize hE : (tyLook T ty).elem = E at *
  generalize hSZ : (tyLook E ty).size = sz at *
  have hvl : (parts.toList.map fun x => a.eval x.2).length = xs.length := L1.1
  have hpl : parts.toList.length = len := by have := congrArg List.length hi; simpa using this
  have hps : parts.size = len := by simpa using hpl
  have hxl : xs.length = len := by rw [← hvl, List.length_map, hpl]
  have hcs : ∀ (j : Nat) v x, (parts.toList.map fun x => a.eval x.2)[j]? = some v → xs[j]? = some x → Alike w g1.A v.cells.toList x.cells ∧ x.cells.length = sz := fun j v x hv hx =>
    ⟨pur_alike (vs := []) (L1.2 j v x hv hx) (List.all_eq_true.1 hp x (List.mem_of_getElem? hx)), by have := List.all_eq_true.1 h1 x (List.mem_of_getElem? hx); simpa using this⟩
  have hv : ∀ v ∈ (parts.toList.map fun x => a.eval x.2), v.cells.size = sz := fun v hv => by
    obtain ⟨j, hj, rfl⟩ := List.mem_iff_getElem.1 hv
    obtain ⟨h2, h3⟩ := hcs j _ _ (List.getElem?_eq_getElem hj) (List.getElem?_eq_getElem (by omega))
    have := h2.1
    rw [Array.length_toList] at this
    omega
  have hparts : (parts.map fun (i, x) => (i, a.eval x)).toList = ((parts.toList.map fun x => a.eval x.2).zipIdx 0).map fun x => (x.2, x.1) := by
    rw [Array.toList_map]
    refine List.ext_getElem? fun j => ?_
    simp only [List.getElem?_map, List.getElem?_zipIdx, Nat.zero_add]
    cases hj : parts.toList[j]? with
    | none => rfl
    | some q =>
      have h4 : (parts.toList.map (·.1))[j]? = some q.1 := by rw [List.getElem?_map, hj]; rfl
      rw [hi, List.getElem?_range (by have := lt_of_some hj; omega)] at h4
      obtain rfl : j = q.1 := by simpa using h4
      rfl
  obtain ⟨c', hf, hc'⟩ := fillDense (sz := sz) (parts.toList.map fun x => a.eval x.2) 0 ((Array.range (len * sz)).map (z.cells[· % z.cells.size]!)) hv (by simp [hps])
  have hcsz : c'.toList = (parts.toList.map fun x => a.eval x.2).flatMap (·.cells.toList) := by
    rw [hc', Nat.zero_mul, List.take_zero, List.nil_append, Nat.zero_add, List.drop_eq_nil_of_le (by simp [hps]), List.append_nil]
  have hal : Alike w g1.A c'.toList (flatA xs) := by
    rw [hcsz]
    exact flatMap_alike _ _ hvl (fun j v x hv hx => (hcs j v x hv hx).1)
  have hw : ∀ x ∈ xs, x.cells.length = sz := fun x hx => by have := List.all_eq_true.1 h1 x hx; simpa using this
  have hc'l : c'.size = len * sz := by
    have := hal.1
    rw [flat_len xs hw, hxl, Array.length_toList] at this
    exact this
  have hsmall : ¬ len * sz > 2 ^ 24 := by
    have : len * sz ≤ 4000 * 4000 := Nat.mul_le_mul hlen hsz
    omega
  have hr : (execOp a.eval o).run P w = .ok (.value (.slice (some ⟨w.heap.size, 0, none⟩) len len)) (w.alloc (.cells c' E)) := by
    simp only [execOp, ho]
    refine run_valW ?_
    by_cases h0 : len * sz = 0
    · have : c' = #[] := by apply Array.eq_empty_of_size_eq_zero; omega
      subst this
      have hl0 : len = 0 := by
        rcases Nat.eq_zero_or_pos len with h | h
        · exact h
        · have := Nat.mul_pos h hpos; omega
      subst hl0
      have hp0 : parts = #[] := by
        apply Array.ext'
        exact List.eq_nil_of_length_eq_zero hpl
      subst hp0
      simp [Instr.buildSlice, run_underlying hu, sizeOf, typeInfo, hie, Instr.fill, newRow]
      congr 2
      apply Array.eq_empty_of_size_eq_zero
      simp
    · refine run_buildSlice w T E len _ c' ie z hu hie hiz (by rw [hies]; exact hsmall) (by rw [hies]; exact h0) ?_
      rw [hies, hparts]
      exact hf
  have hrow : RowV (w.alloc (.cells c' E)) (g1.new w ob) ob.length E sz (.slice (some ⟨w.heap.size, 0, none⟩) len len) xs := by
    refine ⟨c'.toList, ⟨by rw [Array.length_toList, hc'l, hxl], .inr ⟨w.heap.size, len, c', by rw [hxl], Nat.zero_le _, heap_new w _, by omega, by unfold maxLen; omega, hc'l, ?_⟩⟩, fun b hb => ?_, hal.keep (Ext.new M1 (.cells c' E) (.row E sz false 0 xs)).A, hw, fun b hb => ?_, fun he j y hy hj => ?_⟩
    · rw [hxl, ← hc'l]
      exact List.take_of_length_le (by simp)
    · obtain rfl : w.heap.size = b := by simpa [Value.ownBlock] using hb
      simp [Gh.new]
    · obtain rfl : w.heap.size = b := by simpa [Value.ownBlock] using hb
      exact M1.sub_new (Nat.le_refl _)
    · obtain rfl := nil_kids hsub hal hw he hy hj
      exact ⟨KidV.nil, fun _ _ b _ _ _ h => by cases h⟩
  have M' := M1.new (.cells c' E) (.row E sz false 0 xs) (fun cs h => by cases h) (fun cs h => by cases h) (fun s p h => by cases h) (fun et sz' fz e ys h => by cases h; exact ⟨hpos, hw⟩)
  have hS1 : Slots w g1 ⟨s.tm, ob⟩ a := fun t => (hS t).ext E1
  refine wp_ok hr ⟨fun _ => (Below.refl _ w).alloc (Nat.le_refl _) _, _, sim_put (s := ⟨s.tm, ob⟩) ⟨hs.defers, hs.size, g1, M1, hS1, h0.trans (Step.ghost E1 G1)⟩ hS1 (h0.trans (Step.ghost E1 G1)) M' (Step.new M1 _ _) hd ?_, hok⟩
  exact ⟨rfl, E, sz, false, 0, xs, get_new, Nat.le_refl _, fun _ => hrow⟩
end
end Go.Proofs.Ytblafdmmebiagaa
namespace Go.Proofs.Ytblafdmmebiagaa
open Go.RowKit Go.Lib
section
variable {P : Program} {ty : Tys} {w0 : World} {g0 : Gh} {o0 : List Ob} {N : Nat} {Q : Ex → St → Prop} {w w' : World} {g g' : Gh} {ob ob' : List Ob}
theorem Ext.addRow (x : Ob) : Ext w g ob w g (ob ++ [x]) :=
  ⟨fun _ _ h => ⟨h, rfl⟩, fun _ _ => rfl, fun id h => by rw [get_old (isBox_lt h)]; exact h, fun id h => by rw [get_old (isIt_lt h)]; exact h,
    fun id et sz fz e xs h => ⟨fz, e, xs, by rw [get_old (lt_of_some h)]; exact h, Nat.le_refl _, fun _ => ⟨rfl, fun _ h => ⟨h, rfl⟩⟩⟩, fun _ _ _ _ => ⟨rfl, fun _ _ h => h⟩⟩
theorem Mem.addRow (M : Mem w g ob) {et sz : Nat} (hs : 0 < sz) : Mem w g (ob ++ [.row et sz false 0 []]) := by
  have E := Ext.addRow (w := w) (g := g) (ob := ob) (.row et sz false 0 [])
  have last : ∀ {id : Nat} {y : Ob}, (ob ++ [.row et sz false 0 []])[id]? = some y → id < ob.length ∧ ob[id]? = some y ∨ y = .row et sz false 0 [] := fun {id y} h => by
    by_cases hl : id < ob.length
    · rw [get_old hl] at h; exact .inl ⟨hl, h⟩
    · have hid : id = ob.length := by have := lt_of_some h; simp at this; omega
      subst hid
      rw [get_new] at h
      exact .inr (by simpa using h.symm)
  refine ⟨fun id cs h => ?_, fun id cs h j u hj => ?_, fun id s p h => ?_, fun b id h => ⟨(M.own b id h).1, by have := (M.own b id h).2; simp; omega⟩, fun b o hA => ⟨(M.imm b o hA).1, fun id hG hs => ?_⟩, fun id et' sz' fz e xs h => ?_, fun b hs => ?_, M.uniq⟩
  · rcases last h with ⟨_, h⟩ | h
    · obtain ⟨h1, cur, T, h2, h3⟩ := M.box id cs h
      exact ⟨h1, cur, T, h2, h3.ext E⟩
    · cases h
  · rcases last h with ⟨_, h⟩ | h
    · exact M.fbox id cs h j u hj
    · cases h
  · rcases last h with ⟨_, h⟩ | h
    · exact M.iter id s p h
    · cases h
  · obtain ⟨et', sz', e, xs, h3, h4⟩ := (M.imm b o hA).2 id hG hs
    exact ⟨et', sz', e, xs, by rw [get_old (lt_of_some h3)]; exact h3, h4⟩
  · rcases last h with ⟨_, h⟩ | h
    · exact M.roww id et' sz' fz e xs h
    · cases h; exact ⟨hs, fun x hx => by cases hx⟩
  · obtain ⟨id, et', sz', fz, e, xs, h3, h4⟩ := M.nsub b hs
    exact ⟨id, et', sz', fz, e, xs, h3, by rw [get_old (lt_of_some h4)]; exact h4⟩
theorem Step.addRow (x : Ob) : Step w g ob w g (ob ++ [x]) :=
  ⟨rfl, rfl, rfl, Nat.le_refl _, fun _ _ _ => rfl, fun _ _ h => .inl ⟨_, h⟩, fun _ _ h => .inl h, Ext.addRow x, by simp⟩
theorem src_rel (hT : TyOk P ty) {s : St} (M : Mem w g s.ob) {E U : Nat} {v : Value} {y : AV} (hv : ARel w g s.ob v y) {sz : Nat} {news : List AV} (h : srcOf std ty s E U y = some (sz, news)) (hel : (tyLook E ty).size = sz) (hsz : 0 < sz)
    (hw : ∀ x ∈ news, x.cells.length = sz) :
    ∃ d zs, P.underlying U = some d ∧ ((∃ e', d = .slice e') ∨ d = .string) ∧ zs.length = news.length * sz ∧ Alike w g.A zs (flatA news) ∧ (∀ W, (Builtin.lenOf v).run P W = .ok news.length W) ∧
      ∀ W : World, W.heap = w.heap → (Builtin.firstCells sz news.length v).run P W = .ok zs.toArray W := by
  unfold srcOf at h
  split at h
  · rename_i b
    split at h
    · rename_i hk
      obtain ⟨rfl, rfl⟩ : 1 = sz ∧ std.bytesS b = news := by simpa using h
      have hb : std.isB (std.bytesS b) := fun x hx => by
        obtain ⟨n, _, rfl⟩ := List.mem_map.1 (show x ∈ b.data.toList.map _ from hx)
        exact ⟨n, rfl⟩
      have hl : (std.bytesS b).length = b.size := by show (b.data.toList.map _).length = _; simp
      rw [hv.valEq]
      refine ⟨.string, strCells b, (ty_kd hT hk.1 (by decide)).str hk.1, .inr rfl, by rw [strCells_length, hl, Nat.mul_one], ?_, fun W => by rw [hl]; rfl, fun W _ => by rw [hl]; exact run_firstCells_string W 1 b⟩
      rw [isB_flat hb]
      refine ⟨by rw [strCells_length, hl], fun j y u hy hu => ?_⟩
      have hu : (b.data.toList.map fun x => AV.val (.int .u8 x.toNat))[j]? = some u := hu
      simp only [strCells, List.getElem?_map, Option.map_eq_some_iff] at hy hu
      obtain ⟨c, hc, rfl⟩ := hy
      obtain ⟨c', hc', rfl⟩ := hu
      rw [hc] at hc'; cases hc'
      exact PRel.val _ rfl
    · cases h
  · split at h
    · rename_i hk
      obtain ⟨_, rfl⟩ : _ ∧ [] = news := by simpa using h
      rw [hv.valEq]
      exact ⟨_, [], (ty_sl hT hk).slice hk, .inl ⟨_, rfl⟩, by simp, Alike.nil, fun W => rfl, fun W _ => rfl⟩
    · cases h
  · split at h
    · rename_i hk
      obtain ⟨A, c, ys, rfl, hr, hal⟩ := elems_rel M hv h
      refine ⟨_, ys, (ty_sl hT hk).slice hk, .inl ⟨_, rfl⟩, hr.len, hal, fun W => rfl, fun W hW => ?_⟩
      rcases Nat.eq_zero_or_pos news.length with h0 | h0
      · have hy : ys = [] := List.eq_nil_of_length_eq_zero (by rw [hr.len, h0, Nat.zero_mul])
        subst hy
        rw [h0]
        cases A <;> simp [Builtin.firstCells, loadCells, loadCellsFrom]
      · obtain ⟨b, o, rfl, _, hc⟩ := hr.at_ h0
        refine run_firstCells_some (P := P) W sz news.length _ _ _ ys hr.len (fun j u hj => ?_)
        rw [Addr.add_mid, show W.cell? ⟨b, o + j, none⟩ = w.cell? ⟨b, o + j, none⟩ from by simp only [World.cell?, hW]]
        exact hc j u hj
    · cases h
set_option maxHeartbeats 1000000 in
theorem append_core (hT : TyOk P ty) {s : St} {a : Act} {w : World} (M : Mem w g ob) {T U : Nat} {id et sz ep : Nat} {fz : Bool} {xs xs' news : List AV} (h : ob[id]? = some (.row et sz fz ep xs)) {v : Value}
    (hv : RowV w g id et sz v xs') (hfz : fz = true → xs' = xs) (hel : elOk ty T sz = true) (het : et = (tyLook T ty).elem) {d : TypeDesc} {y : Value} {zs : List Value} (hu : P.underlying U = some d) (hd : (∃ e', d = .slice e') ∨ d = .string)
    (hzl : zs.length = news.length * sz) (hal : Alike w g.A zs (flatA news)) (hlen : ∀ W, (Builtin.lenOf y).run P W = .ok news.length W)
    (hfc : ∀ W : World, W.heap = w.heap → (Builtin.firstCells sz news.length y).run P W = .ok zs.toArray W) (hw : ∀ x ∈ news, x.cells.length = sz) (hsub : subOk et news = true) (hb : xs'.length + news.length ≤ 1000000000) (tyR : TypeId) :
    ∃ v' w', (Builtin.append_ #[T, U] tyR #[v, y]).run P w = .ok v' w' ∧ Mem w' (g.grow id v'.ownBlock) (ob.set id (.row et sz fz (ep + 1) (xs' ++ news))) ∧
      Step w g ob w' (g.grow id v'.ownBlock) (ob.set id (.row et sz fz (ep + 1) (xs' ++ news))) ∧ RowV w' (g.grow id v'.ownBlock) id et sz v' (xs' ++ news) := by
  obtain ⟨e, hT1, hee, te, hes, hpos⟩ := el_facts hT hel
  obtain ⟨ie, z, hie, hies, hieb, hiz, hzc⟩ := te.i
  have heq : et = e := het.trans hee.symm
  subst heq
  obtain ⟨ys, ho, hG, hya, hyw, hys⟩ := hv
  have hzs : z.cells.size = sz := by
    have := congrArg List.length hzc
    rw [Array.length_toList, te.zl, hes] at this
    exact this
  obtain ⟨v', w', hr, h1, h2, h3, h4⟩ := append_any (P := P) (w := w) (ty := tyR) hT1 hu hd hie hiz (hies.trans hes) (by rw [hieb]; exact te.by_) hzs ho hzl hlen hfc hal.one hb
  have hww : ∀ x ∈ xs' ++ news, x.cells.length = sz := fun x hx => by
    rcases List.mem_append.1 hx with hx | hx
    · exact hyw x hx
    · exact hw x hx
  have hvb : ∀ b, v'.ownBlock = some b → v.ownBlock = some b ∨ (w.heap.size ≤ b ∧ b < w'.heap.size) := fun b hb => by
    rcases h3 with h5 | h5
    · exact .inl (h5 ▸ hb)
    · have hlt := (h1.lt b hb).2
      rw [hb] at h5
      cases h5
      exact .inr ⟨Nat.le_refl _, hlt⟩
  obtain ⟨E, M'⟩ := M.grow (fz' := fz) h (fun h => h) h2 (fun b hb => ⟨hG b hb, hys.1 b hb⟩) hvb (n := xs'.length) h4 (fun hf => by rw [hfz hf]; exact Nat.le_refl _) (fun hf => by rw [List.length_append, hfz hf]; omega) hww
  refine ⟨v', w', hr, M', Step.grow M h h2 (fun b hb => hG b hb) hvb E, ys ++ zs, by rw [List.length_append]; exact h1, fun b hb => ?_, ?_, hww, fun b hb => ?_, fun he j y hy hj => ?_⟩
  · exact Gh.grow_self hb
  · show Alike _ _ _ ((xs' ++ news).flatMap AV.cells)
    rw [List.flatMap_append]
    exact (hya.append hal).keep E.A
  · rcases h3 with h3 | h3
    · exact hys.1 b (h3 ▸ hb)
    · rw [hb] at h3
      obtain rfl : b = w.heap.size := by simpa using h3
      exact M.sub_new (Nat.le_refl _)
  · have hyl : ys.length = xs'.length * sz := by rw [hya.1, flat_len xs' hyw]
    have old : ∀ {j : Nat} {y : Value}, (ys ++ zs)[j]? = some y → j % sz = 1 → (ys[j]? = some y) ∨ y = .slice none 0 0 := fun {j y} hy hj => by
      by_cases hlt : j < ys.length
      · rw [List.getElem?_append_left hlt] at hy; exact .inl hy
      · rw [List.getElem?_append_right (by omega)] at hy
        refine .inr (nil_kids (g := g) (w := w) hsub hal hw he hy ?_)
        rw [hyl]
        have : j = (j - xs'.length * sz) + xs'.length * sz := by omega
        rw [this, Nat.add_mul_mod_self_right] at hj
        exact hj
    rcases old hy hj with h5 | rfl
    · obtain ⟨⟨k, us, h6, h7⟩, h8⟩ := hys.2 he j y h5 hj
      have ne : ∀ {b : Nat}, y.ownBlock = some b → some b ≠ v.ownBlock := fun {b} hb h9 => by
        have := hys.1 b h9.symm
        rw [(h7 b hb).2.1] at this; cases this
      refine ⟨⟨k, us, ownsRow_ext h6 fun b hb => ?_, fun b hb => ?_⟩, fun i z b hz hi hzb hyb => ?_⟩
      · exact h2.block b (M.own b id (h7 b hb).1).1 (ne hb)
      · obtain ⟨h9, h10, h11⟩ := h7 b hb
        exact ⟨M.grow_sub (fun b hb => ⟨hG b hb, hys.1 b hb⟩) hvb h9 h10, h10, h11⟩
      · rcases old hz hi with h9 | rfl
        · exact h8 i z b h9 hi hzb hyb
        · cases hzb
    · exact ⟨KidV.nil, fun _ _ b _ _ _ h => by cases h⟩
theorem src_w {s : St} (M : Mem w g s.ob) {E U : Nat} {v : Value} {y : AV} (hv : ARel w g s.ob v y) {sz : Nat} {news : List AV} (h : srcOf std ty s E U y = some (sz, news)) : ∀ x ∈ news, x.cells.length = sz := by
  have cutw : ∀ {xs : List AV} {k : Int}, (∀ x ∈ xs, x.cells.length = sz) → ∀ x ∈ std.cut xs 0 k, x.cells.length = sz := fun hw x hx => by
    have : x ∈ (_ : List AV) := hx
    exact hw x (List.mem_of_mem_drop (List.mem_of_mem_take hx))
  unfold srcOf at h
  split at h
  · split at h
    · obtain ⟨rfl, rfl⟩ : 1 = sz ∧ std.bytesS _ = news := by simpa using h
      intro x hx
      obtain ⟨n, _, rfl⟩ := List.mem_map.1 (show x ∈ List.map _ _ from hx)
      rfl
    · cases h
  · split at h
    · obtain ⟨_, rfl⟩ : _ ∧ [] = news := by simpa using h
      intro x hx; cases hx
    · cases h
  · split at h
    · cases y with
      | slc sz' l =>
        obtain ⟨rfl, rfl⟩ : sz' = sz ∧ l = news := by simpa [elems] using h
        cases (show PRel w g.A v (.slc sz' l) from hv) with
        | nil => intro x hx; cases hx
        | slc b o c _ _ f hc hm hw hcell hrel => exact hw
      | row id ep =>
        obtain ⟨_, et, sz', fz, e, xs', h1, h2, h3⟩ := hv
        simp only [elems, h1] at h
        split at h
        · obtain ⟨rfl, rfl⟩ : sz' = sz ∧ xs' = news := by simpa using h
          exact (M.roww _ _ _ _ _ _ h1).2
        · cases h
      | rowk id ep k =>
        obtain ⟨_, et, sz', fz, e, xs', h1, h2, h3⟩ := hv
        simp only [elems, h1] at h
        split at h
        · obtain ⟨rfl, rfl⟩ : sz' = sz ∧ std.cut xs' 0 k = news := by simpa using h
          exact cutw (M.roww _ _ _ _ _ _ h1).2
        · cases h
      | _ => simp [elems] at h
    · cases h
theorem op_append_row (hT : TyOk P ty) {K : St → Tree} {o : Oper} {s : St} {a : Act} {w : World} {R : Exit → Act → World → Prop} (hs : Sim w0 g0 o0 N s a w) (hd : ∀ t, o.dst = some t → t < N)
    {x y : Operand} {args : Array Operand} {tys : Array TypeId} (ho : o.op = .call { callee := .builtin .append, args := args, argTypes := tys }) (ha : args.toList = [x, y]) {T U : Nat} (ht : tys.toList = [T, U])
    {ob : List Ob} (hob : ∀ g, Mem w g s.ob → Mem w g ob ∧ Ext w g s.ob w g ob ∧ Step w g s.ob w g ob) {id et sz ep : Nat} {fz : Bool} {xs xs' news : List AV} (h : ob[id]? = some (.row et sz fz ep xs))
    (hv : ∀ g, Mem w g s.ob → Slots w g s a → RowV w g id et sz (a.eval x) xs') (hfz : fz = true → xs' = xs) (hel : elOk ty T sz = true) (het : et = (tyLook T ty).elem)
    (hsrc : srcOf std ty s et U (ev s y) = some (sz, news)) (hsub : subOk et news = true) (hb : std.bnd xs' news)
    (hok : (K (St.put ⟨s.tm, ob.set id (.row et sz fz (ep + 1) (std.app xs' news))⟩ o.dst (.row id (ep + 1)))).ok P w0 g0 o0 N Q) : o.wp P a w (Good ty P w0 g0 o0 N Q K o.op w) R := by
  obtain ⟨g, M, hS, h0⟩ := hs.rel
  obtain ⟨M1, E1, S1⟩ := hob g M
  obtain ⟨e, hT1, hee, te, hes, hpos⟩ := el_facts hT hel
  have hyr := ev_rel hS y
  have hw := src_w M hyr hsrc
  have hes' : (tyLook et ty).size = sz := by rw [het, ← hee]; exact hes
  obtain ⟨d, zs, hu, hd', hzl, hal, hlen, hfc⟩ := src_rel hT M hyr hsrc hes' hpos hw
  obtain ⟨v', w', hr, M2, S2, R2⟩ := append_core hT (a := a) (s := s) M1 h (hv g M hS) hfz hel het hu hd' hzl hal hlen hfc hw hsub hb o.type
  have hargs : args = #[x, y] := by apply Array.ext'; simpa using ha
  have htys : tys = #[T, U] := by apply Array.ext'; simpa using ht
  subst hargs htys
  have hrun : (execOp a.eval o).run P w = .ok (.value v') w' := by
    obtain ⟨cs, hc⟩ := exec_builtin (P := P) (a := a) ho w
    rw [hc]
    show (do pure (Next.value (← Builtin.append_ #[T, U] o.type (Array.map a.eval #[x, y]))) : Sem Next).run P w = _
    refine run_valW ?_
    simpa using hr
  have hS1 : Slots w g ⟨s.tm, ob⟩ a := fun t => (hS t).ext E1
  have hs1 : Sim w0 g0 o0 N ⟨s.tm, ob⟩ a w := ⟨hs.defers, hs.size, g, M1, hS1, h0.trans S1⟩
  refine wp_ok hrun ⟨fun h => by simp [ho, quietW] at h, _, sim_put (s := ⟨s.tm, ob⟩) hs1 hS1 (h0.trans S1) M2 S2 hd ?_, hok⟩
  refine ⟨?_, et, sz, fz, ep + 1, xs' ++ news, List.getElem?_set_self (lt_of_some h), Nat.le_refl _, fun _ => R2⟩
  obtain ⟨ys, ho2, _⟩ := R2
  rcases ho2.2 with ⟨rfl, _⟩ | ⟨b, cap, cur, rfl, _⟩ <;> rfl
end
end Go.Proofs.Ytblafdmmebiagaa
namespace Go.Proofs.Ytblafdmmebiagaa
open Go.RowKit Go.Lib
section
variable {P : Program} {ty : Tys} {w0 : World} {g0 : Gh} {o0 : List Ob} {N : Nat} {Q : Ex → St → Prop} {w w' : World} {g g' : Gh} {ob ob' : List Ob}
theorem op_bytes (hT : TyOk P ty) {K : St → Tree} {o : Oper} {s : St} {a : Act} {w : World} {R : Exit → Act → World → Prop} (hs : Sim w0 g0 o0 N s a w) (hd : ∀ t, o.dst = some t → t < N)
    {src dst : Nat} {x : Operand} (ho : o.op = .convert src dst x) {b : ByteArray} (hx : ev s x = .val (.string b)) (h1 : (tyLook src ty).kd = 6) (h2 : (tyLook dst ty).sl = true) (h3 : (tyLook (tyLook dst ty).elem ty).kind = some .u8) (hb : b.size ≤ 1000000000)
    (hok : (K (St.put s o.dst (.slc 1 (std.bytesS b)))).ok P w0 g0 o0 N Q) : o.wp P a w (Good ty P w0 g0 o0 N Q K o.op w) R := by
  obtain ⟨g, M, hS, h0⟩ := hs.rel
  have hxr := ev_rel hS x
  rw [hx] at hxr
  have hs1 := (ty_kd hT h1 (by decide)).str h1
  have hs2 := (ty_sl hT h2).slice h2
  have hs3 := (ty_kind hT h3).int h3
  have hge := grownCap_ge w b.size 0 (tyLook dst ty).elem
  have hmx := grownCap_le_maxLen w b.size 0 (tyLook dst ty).elem (by unfold maxLen; omega)
  have hr := run_bytes_of_string (P := P) w src dst _ b hs1 hs2 hs3
  generalize hC : bytesRow b (grownCap w b.size 0 (tyLook dst ty).elem) = C at hr
  generalize grownCap w b.size 0 (tyLook dst ty).elem = c at *
  have hbel : Below w.heap.size w (w.drew.alloc (.cells C (tyLook dst ty).elem (C.size, C.size + 1))) := (Below.refl _ w).drew.alloc (Nat.le_refl _) _
  have M' := M.immNew hbel
  have hrun : (execOp a.eval o).run P w = .ok (.value (.slice (some ⟨w.heap.size, 0, none⟩) b.size c)) (w.drew.alloc (.cells C (tyLook dst ty).elem (C.size, C.size + 1))) := by
    simp only [execOp, ho, hxr.valEq]
    exact run_valW hr
  have hl : (std.bytesS b).length = b.size := by show (b.data.toList.map _).length = _; simp
  have hbb : std.isB (std.bytesS b) := fun x hx => by
    obtain ⟨n, _, rfl⟩ := List.mem_map.1 (show x ∈ b.data.toList.map _ from hx)
    exact ⟨n, rfl⟩
  have hcell : ∀ (j : Nat) u, (flatA (std.bytesS b))[j]? = some u → ∃ n : UInt8, C[j]? = some (.int .u8 n.toNat) ∧ u = .val (.int .u8 n.toNat) := fun j u hu => by
    rw [isB_flat hbb] at hu
    have hu : (b.data.toList.map fun x => AV.val (.int .u8 x.toNat))[j]? = some u := hu
    rw [List.getElem?_map, Option.map_eq_some_iff] at hu
    obtain ⟨n, hn, rfl⟩ := hu
    have hj := lt_of_some hn
    refine ⟨n, ?_, rfl⟩
    rw [← hC, bytesRow, Array.getElem?_append_left (by simpa using hj)]
    rw [Array.getElem?_map, ← Array.getElem?_toList, hn]; rfl
  have hA : ∀ j, (g.imm w (w.drew.alloc (.cells C (tyLook dst ty).elem (C.size, C.size + 1)))).A w.heap.size j := fun j => .inr ⟨Nat.le_refl _, by simp⟩
  refine wp_ok hrun ⟨fun _ => hbel, _, sim_put hs hS h0 M' (Step.immNew M hbel) hd ?_, hok⟩
  have := PRel.slc (w := w.drew.alloc (.cells C (tyLook dst ty).elem (C.size, C.size + 1))) (A := (g.imm w (w.drew.alloc (.cells C (tyLook dst ty).elem (C.size, C.size + 1)))).A) w.heap.size 0 c 1 (std.bytesS b) (fun j => (C[j]?).getD undef) (by rw [hl]; exact hge) hmx
    (fun x hx => by obtain ⟨n, rfl⟩ := hbb x hx; rfl) (fun j u hu => by
      obtain ⟨n, h4, _⟩ := hcell j u hu
      refine ⟨hA _, ?_⟩
      rw [Nat.zero_add, h4]
      exact (World.cell?_alloc_mark w.drew C _ _ j).trans h4) (fun j u hu => by
      obtain ⟨n, h4, rfl⟩ := hcell j u hu
      simp only [h4]
      exact PRel.val _ rfl)
  rw [hl] at this
  exact this
theorem mark_heap {b b' n : Nat} (h : b' ≠ b) : (w.freeze ⟨b, n, none⟩ 1).heap[b']? = w.heap[b']? := by
  unfold World.freeze
  rw [if_neg (by decide)]
  simp only [Array.getElem?_modify]
  rw [if_neg (by omega)]
theorem mark_cell {b n : Nat} (p : Addr) : (w.freeze ⟨b, n, none⟩ 1).cell? p = w.cell? p := by
  unfold World.freeze
  rw [if_neg (by decide)]
  unfold World.cell?
  simp only [Array.getElem?_modify]
  by_cases hb : b = p.block
  · rw [if_pos hb]
    cases w.heap[p.block]? with
    | none => rfl
    | some o => cases o <;> rfl
  · rw [if_neg hb]
theorem mark_mem (M : Mem w g ob) {id et sz e b : Nat} {fz : Bool} {xs : List AV} (h : ob[id]? = some (.row et sz fz e xs)) (hG : g.G b = some id) (n : Nat) :
    Mem (w.freeze ⟨b, n, none⟩ 1) g (ob.set id (.row et sz fz (e + 1) xs)) ∧ Step w g ob (w.freeze ⟨b, n, none⟩ 1) g (ob.set id (.row et sz fz (e + 1) xs)) := by
  have hid := lt_of_some h
  have hsz : (w.freeze ⟨b, n, none⟩ 1).heap.size = w.heap.size := by
    unfold World.freeze
    rw [if_neg (by decide)]
    simp
  have E : Ext w g ob (w.freeze ⟨b, n, none⟩ 1) g (ob.set id (.row et sz fz (e + 1) xs)) := by
    refine ⟨fun b o h => ⟨h, mark_cell _⟩, fun _ _ => rfl, fun i hi => ?_, fun i hi => ?_, fun i et' sz' fz2 e2 xs2 hi => ?_, fun b' i _ _ => ⟨rfl, fun _ _ h => h⟩⟩
    · have : i ≠ id := by rintro rfl; rw [h] at hi; exact hi
      rw [List.getElem?_set_ne (Ne.symm this)]; exact hi
    · have : i ≠ id := by rintro rfl; rw [h] at hi; exact hi
      rw [List.getElem?_set_ne (Ne.symm this)]; exact hi
    · by_cases e' : i = id
      · subst e'
        rw [h] at hi
        obtain ⟨rfl, rfl, rfl, rfl, rfl⟩ : et = et' ∧ sz = sz' ∧ fz = fz2 ∧ e = e2 ∧ xs = xs2 := by simpa using hi
        exact ⟨fz, e + 1, xs, List.getElem?_set_self hid, by omega, fun he => by omega⟩
      · refine ⟨fz2, e2, xs2, by rw [List.getElem?_set_ne (Ne.symm e')]; exact hi, Nat.le_refl _, fun _ => ⟨rfl, fun b' hG' => ⟨hG', mark_heap ?_⟩⟩⟩
        rintro rfl
        rw [hG] at hG'
        exact e' (by simpa using hG'.symm)
  refine ⟨⟨fun i cs hi => ?_, fun i cs hi j u hj => ?_, fun i s p hi => ?_, fun b i hG => ⟨by rw [hsz]; exact (M.own b i hG).1, by rw [List.length_set]; exact (M.own b i hG).2⟩, fun b' o hA => ⟨by rw [hsz]; exact (M.imm b' o hA).1, fun i hGi hs => ?_⟩, fun i et' sz' fz2 e2 xs2 hi => ?_, fun b' hs => ?_, M.uniq⟩,
    ⟨rfl, rfl, rfl, by rw [hsz]; exact Nat.le_refl _, fun b' _ hN => mark_heap (by rintro rfl; rw [hG] at hN; cases hN), fun b' i h => .inl ⟨i, h⟩, fun b' o h => .inl h, E, by simp⟩⟩
  · have e' : i ≠ id := by rintro rfl; rw [List.getElem?_set_self hid] at hi; cases hi
    rw [List.getElem?_set_ne (Ne.symm e')] at hi
    obtain ⟨h1, cur, T, h2, h3⟩ := M.box i cs hi
    refine ⟨h1, cur, T, ?_, h3.ext E⟩
    rw [mark_heap]
    · exact h2
    · intro hb
      rw [hb, hG] at h1
      exact e' (by simpa using h1.symm)
  · have e' : i ≠ id := by rintro rfl; rw [List.getElem?_set_self hid] at hi; cases hi
    rw [List.getElem?_set_ne (Ne.symm e')] at hi
    obtain ⟨h1, y, h2, h3⟩ := M.fbox i cs hi j u hj
    exact ⟨h1, y, by rw [mark_cell]; exact h2, h3.keep E.A⟩
  · have e' : i ≠ id := by rintro rfl; rw [List.getElem?_set_self hid] at hi; cases hi
    rw [List.getElem?_set_ne (Ne.symm e')] at hi
    obtain ⟨h1, h2⟩ := M.iter i s p hi
    refine ⟨h1, ?_⟩
    rw [mark_heap]
    · exact h2
    · intro hb
      rw [hb, hG] at h1
      exact e' (by simpa using h1.symm)
  · obtain ⟨et', sz', e2, xs2, h3, h4⟩ := (M.imm b' o hA).2 i hGi hs
    by_cases e' : i = id
    · subst e'
      rw [h] at h3
      obtain ⟨rfl, rfl, rfl, rfl, rfl⟩ : et = et' ∧ sz = sz' ∧ fz = true ∧ e = e2 ∧ xs = xs2 := by simpa using h3
      exact ⟨et, sz, e + 1, xs, List.getElem?_set_self hid, h4⟩
    · exact ⟨et', sz', e2, xs2, by rw [List.getElem?_set_ne (Ne.symm e')]; exact h3, h4⟩
  · by_cases e' : i = id
    · subst e'
      rw [List.getElem?_set_self hid] at hi
      cases hi
      exact M.roww _ _ _ _ _ _ h
    · rw [List.getElem?_set_ne (Ne.symm e')] at hi
      exact M.roww i _ _ _ _ _ hi
  · obtain ⟨i, et', sz', fz2, e2, xs2, h3, h4⟩ := M.nsub b' hs
    by_cases e' : i = id
    · subst e'
      exact ⟨i, _, _, _, _, _, h3, List.getElem?_set_self hid⟩
    · exact ⟨i, et', sz', fz2, e2, xs2, h3, by rw [List.getElem?_set_ne (Ne.symm e')]; exact h4⟩
theorem op_mark (hT : TyOk P ty) {K : St → Tree} {o : Oper} {s : St} {a : Act} {w : World} {R : Exit → Act → World → Prop} (hs : Sim w0 g0 o0 N s a w) (hd : ∀ t, o.dst = some t → t < N)
    {src : Nat} {x : Operand} (ho : o.op = .convert src src x) {id et e : Nat} {xs : List AV} (hx : ev s x = .row id e) (hob : s.ob[id]? = some (.row et 1 false e xs)) (h2 : (tyLook src ty).sl = true) (h3 : (tyLook (tyLook src ty).elem ty).kind = some .u8) (hm : xs ≠ [])
    (hok : (K (St.put ⟨s.tm, s.ob.set id (.row et 1 true (e + 1) xs)⟩ o.dst (.slc 1 xs))).ok P w0 g0 o0 N Q) : o.wp P a w (Good ty P w0 g0 o0 N Q K o.op w) R := by
  obtain ⟨g, M, hS, h0⟩ := hs.rel
  have hxr := ev_rel hS x
  rw [hx] at hxr
  obtain ⟨_, et', sz', fz', e', xs', h4, _, h5⟩ := hxr
  rw [hob] at h4
  cases h4
  have hrow := h5 rfl
  obtain ⟨ys, hown, hG, hal, hw, hsub⟩ := h5 rfl
  have hs2 := (ty_sl hT h2).slice h2
  have hs3 := (ty_kind hT h3).int h3
  obtain ⟨g1, M1, E1, hr1, hL1⟩ := freeze_row M hob hrow (Nat.le_refl _)
  obtain ⟨hlen, hnil | ⟨b, cap, cur, hv, hle, hheap, hrest⟩⟩ := hown
  · exfalso
    apply hm
    exact List.eq_nil_of_length_eq_zero hnil.2
  have hGb : g.G b = some id := hG b (by rw [hv]; rfl)
  have hG1 : g1.G b = some id := by
    have := (E1.row id et 1 false e xs hob)
    obtain ⟨fz1, e1, xs1, k1, k2, k3⟩ := this
    rw [List.getElem?_set_self (lt_of_some hob)] at k1
    obtain ⟨rfl, rfl, rfl⟩ : true = fz1 ∧ e = e1 ∧ xs = xs1 := by simpa using k1
    exact ((k3 rfl).2 b hGb).1
  have hob1 : (s.ob.set id (.row et 1 true e xs))[id]? = some (.row et 1 true e xs) := List.getElem?_set_self (lt_of_some hob)
  obtain ⟨M2, S2⟩ := mark_mem M1 hob1 hG1 cur.size
  rw [List.set_set] at M2 S2
  have hrun : (execOp a.eval o).run P w = .ok (.value (a.eval x)) (w.freeze ⟨b, cur.size, none⟩ 1) := by
    simp only [execOp, ho, hv]
    refine run_valW ?_
    have hsh : w.shape? b = some (et, cur.size) := by unfold World.shape?; rw [hheap]
    simp [convert, run_underlying hs2, run_underlying hs3, markStringish, hsh]
  have hst := (Step.ghost (ob' := s.ob.set id (.row et 1 true e xs)) E1 hL1).trans S2
  refine wp_ok hrun ⟨fun hq => ?_, _, sim_put (g' := g1) hs hS h0 M2 hst hd ?_, hok⟩
  · simp [ho, quietW, h2] at hq
  · have : PRel (w.freeze ⟨b, cur.size, none⟩ 1) g1.A (a.eval x) (.slc 1 xs) := hr1.keep fun b' o' h => ⟨h, mark_cell _⟩
    exact this
theorem op_range (hT : TyOk P ty) {K : St → Tree} {o : Oper} {s : St} {a : Act} {w : World} {R : Exit → Act → World → Prop} (hs : Sim w0 g0 o0 N s a w) (hd : ∀ t, o.dst = some t → t < N)
    {T : Nat} {x : Operand} (ho : o.op = .range T x) {b : ByteArray} (hx : ev s x = .val (.string b)) (h1 : (tyLook T ty).kd = 6)
    (hok : (K (St.put ⟨s.tm, s.ob ++ [.iter b 0]⟩ o.dst (.iter s.ob.length))).ok P w0 g0 o0 N Q) : o.wp P a w (Good ty P w0 g0 o0 N Q K o.op w) R := by
  obtain ⟨g, M, hS, h0⟩ := hs.rel
  have hxr := ev_rel hS x
  rw [hx] at hxr
  have hs1 := (ty_kd hT h1 (by decide)).str h1
  have hr : (execOp a.eval o).run P w = .ok (.value (.pointer (some ⟨w.heap.size, 0, none⟩))) (w.alloc (.stringIter b 0)) := by
    simp only [execOp, ho, hxr.valEq]
    refine run_valW ?_
    simp only [Instr.range, Sem.run_bind, run_underlying hs1, Result.andThen_ok, Sem.run_pure, run_newObj]
    rfl
  have M' := M.new (.stringIter b 0) (.iter b 0) (fun cs h => by cases h) (fun cs h => by cases h) (fun s p h => by cases h; rfl) (fun et sz fz e xs h => by cases h)
  refine wp_ok hr ⟨fun _ => (Below.refl _ w).alloc (Nat.le_refl _) _, _, sim_put hs hS h0 M' (Step.new M _ _) hd ?_, hok⟩
  refine ⟨by simp [Gh.new], ?_⟩
  rw [get_new]; trivial
theorem iter_set (M : Mem w g ob) {id : Nat} {b : ByteArray} {p p' : Nat} (h : ob[id]? = some (.iter b p)) :
    Mem { w with heap := w.heap.setIfInBounds (g.loc id) (.stringIter b p') } g (ob.set id (.iter b p')) ∧ Step w g ob { w with heap := w.heap.setIfInBounds (g.loc id) (.stringIter b p') } g (ob.set id (.iter b p')) := by
  have hid := lt_of_some h
  obtain ⟨hG, hh⟩ := M.iter id b p h
  have hlt := (M.own _ _ hG).1
  have other : ∀ {k : Nat}, k ≠ g.loc id → ({ w with heap := w.heap.setIfInBounds (g.loc id) (.stringIter b p') } : World).heap[k]? = w.heap[k]? := fun hk => by
    show (w.heap.setIfInBounds _ _)[_]? = _
    rw [Array.getElem?_setIfInBounds_ne (Ne.symm hk)]
  have ne : ∀ {k i : Nat}, g.G k = some i → i ≠ id → k ≠ g.loc id := by
    rintro k i h1 h2 rfl
    rw [hG] at h1
    exact h2 (by simpa using h1.symm)
  have hA : ∀ k o, g.A k o → k ≠ g.loc id := by
    rintro k o h1 rfl
    obtain ⟨et, sz, e, xs, h2, _⟩ := (M.imm _ _ h1).2 id hG (M.nosub hG fun _ _ _ _ _ h3 => by rw [h] at h3; cases h3)
    rw [h] at h2; cases h2
  have E : Ext w g ob { w with heap := w.heap.setIfInBounds (g.loc id) (.stringIter b p') } g (ob.set id (.iter b p')) := by
    refine ⟨fun k o h1 => ⟨h1, World.cell?_of_block (w := w) (other (hA k o h1))⟩, fun _ _ => rfl, fun i hi => ?_, fun i hi => ?_, fun i et sz fz e xs hi => ?_, fun _ _ _ _ => ⟨rfl, fun _ _ h => h⟩⟩
    · have : i ≠ id := by rintro rfl; rw [h] at hi; exact hi
      rw [List.getElem?_set_ne (Ne.symm this)]; exact hi
    · by_cases e : i = id
      · subst e; rw [List.getElem?_set_self hid]; trivial
      · rw [List.getElem?_set_ne (Ne.symm e)]; exact hi
    · have : i ≠ id := by rintro rfl; rw [h] at hi; cases hi
      exact ⟨fz, e, xs, by rw [List.getElem?_set_ne (Ne.symm this)]; exact hi, Nat.le_refl _, fun _ => ⟨rfl, fun k hk => ⟨hk, other (ne hk this)⟩⟩⟩
  have hsz : ({ w with heap := w.heap.setIfInBounds (g.loc id) (.stringIter b p') } : World).heap.size = w.heap.size := by show (w.heap.setIfInBounds _ _).size = _; simp
  refine ⟨⟨fun i cs hi => ?_, fun i cs hi j u hj => ?_, fun i s q hi => ?_, fun k i hk => by rw [hsz, List.length_set]; exact M.own k i hk, fun k o h1 => ?_, fun i et sz fz e xs hi => ?_, fun b hs => ?_, M.uniq⟩,
    ⟨rfl, rfl, rfl, by rw [hsz]; exact Nat.le_refl _, fun k _ hk => other (fun e => by rw [e, hG] at hk; cases hk), fun k i hk => .inl ⟨i, hk⟩, fun _ _ h => .inl h, E, by simp⟩⟩
  · have e' : i ≠ id := by rintro rfl; rw [List.getElem?_set_self hid] at hi; cases hi
    rw [List.getElem?_set_ne (Ne.symm e')] at hi
    obtain ⟨h1, cur, T, h2, h3⟩ := M.box i cs hi
    exact ⟨h1, cur, T, (other (ne h1 e')).trans h2, h3.ext E⟩
  · have e' : i ≠ id := by rintro rfl; rw [List.getElem?_set_self hid] at hi; cases hi
    rw [List.getElem?_set_ne (Ne.symm e')] at hi
    obtain ⟨h1, y, h2, h3⟩ := M.fbox i cs hi j u hj
    exact ⟨h1, y, (E.A _ _ h1).2.trans h2, h3.keep E.A⟩
  · by_cases e' : i = id
    · subst e'
      rw [List.getElem?_set_self hid] at hi
      obtain ⟨rfl, rfl⟩ : b = s ∧ p' = q := by simpa using hi
      exact ⟨hG, by show (w.heap.setIfInBounds _ _)[_]? = _; rw [Array.getElem?_setIfInBounds_self, if_pos hlt]⟩
    · rw [List.getElem?_set_ne (Ne.symm e')] at hi
      obtain ⟨h1, h2⟩ := M.iter i s q hi
      exact ⟨h1, (other (ne h1 e')).trans h2⟩
  · obtain ⟨h2, h3⟩ := M.imm k o h1
    refine ⟨by rw [hsz]; exact h2, fun i hk hs => ?_⟩
    obtain ⟨et, sz, e, xs, h4, h5⟩ := h3 i hk hs
    have e' : i ≠ id := by rintro rfl; rw [h] at h4; cases h4
    exact ⟨et, sz, e, xs, by rw [List.getElem?_set_ne (Ne.symm e')]; exact h4, h5⟩
  · have e' : i ≠ id := by rintro rfl; rw [List.getElem?_set_self hid] at hi; cases hi
    rw [List.getElem?_set_ne (Ne.symm e')] at hi
    exact M.roww i et sz fz e xs hi
  · obtain ⟨i, et, sz, fz, e, xs, h3, h4⟩ := M.nsub b hs
    have e' : i ≠ id := by rintro rfl; rw [h] at h4; cases h4
    exact ⟨i, et, sz, fz, e, xs, h3, by rw [List.getElem?_set_ne (Ne.symm e')]; exact h4⟩
theorem op_next {K : St → Tree} {o : Oper} {s : St} {a : Act} {w : World} {R : Exit → Act → World → Prop} (hs : Sim w0 g0 o0 N s a w) (hd : ∀ t, o.dst = some t → t < N)
    {it : Operand} (ho : o.op = .next it true) {id : Nat} (hi : ev s it = .iter id) {b : ByteArray} {pos : Nat} (hob : s.ob[id]? = some (.iter b pos))
    (ht : std.itmore b pos = true → (K (St.put ⟨s.tm, s.ob.set id (.iter b (std.itp b pos))⟩ o.dst (.tup [.kb true, .val (.int .i64 (std.toI pos)), .val (.int .i32 (std.itr b pos))]))).ok P w0 g0 o0 N Q)
    (hf : std.itmore b pos = false → (K (St.put s o.dst (.tup [.kb false]))).ok P w0 g0 o0 N Q) : o.wp P a w (Good ty P w0 g0 o0 N Q K o.op w) R := by
  obtain ⟨g, M, hS, h0⟩ := hs.rel
  have hir := ev_rel hS it
  rw [hi] at hir
  have hv : a.eval it = .pointer (some ⟨g.loc id, 0, none⟩) := hir.1
  obtain ⟨hG, hh⟩ := M.iter id b pos hob
  have hget : (getObj (g.loc id)).run P w = .ok (.stringIter b pos) w := by simp [getObj, Sem.run, hh]
  by_cases hlt : pos < b.size
  · obtain ⟨M', S'⟩ := iter_set M (p' := std.itp b pos) hob
    have hr : (execOp a.eval o).run P w = .ok (.value (.tuple #[.bool true, .int .i64 pos, .int .i32 ((Utf8.decode b pos).1 : Int)])) { w with heap := w.heap.setIfInBounds (g.loc id) (.stringIter b (std.itp b pos)) } := by
      simp only [execOp, ho, hv]
      refine run_valW ?_
      have hset : (setObj (g.loc id) (.stringIter b (pos + (Utf8.decode b pos).2))).run P w = .ok () { w with heap := w.heap.setIfInBounds (g.loc id) (.stringIter b (std.itp b pos)) } := by
        simp only [setObj, Sem.run, hh]; rfl
      simp only [Instr.next, Sem.run_bind, hget, Result.andThen_ok, hlt, if_true, hset, Sem.run_pure, goInt]
    refine wp_ok hr ⟨fun h => by simp [ho, quietW] at h, _, sim_put hs hS h0 M' S' hd ?_, ht (by show decide (pos < b.size) = true; simp [hlt])⟩
    refine ⟨_, rfl, rfl, fun j y u hy hu => ?_⟩
    match j, hy, hu with
    | 0, hy, hu =>
      obtain rfl : Value.bool true = y := by simpa using hy
      obtain rfl : AV.kb true = u := by simpa using hu
      exact (rfl : Value.bool true = .bool true)
    | 1, hy, hu =>
      obtain rfl : Value.int .i64 pos = y := by simpa using hy
      obtain rfl : AV.val (.int .i64 (std.toI pos)) = u := by simpa using hu
      exact PRel.val _ rfl
    | 2, hy, hu =>
      obtain rfl : Value.int .i32 ((Utf8.decode b pos).1 : Int) = y := by simpa using hy
      obtain rfl : AV.val (.int .i32 (std.itr b pos)) = u := by simpa using hu
      exact PRel.val _ rfl
    | j + 3, hy, _ => simp at hy
  · have hr : (execOp a.eval o).run P w = .ok (.value (.tuple #[.bool false])) w := by
      simp only [execOp, ho, hv]
      refine run_valW ?_
      simp only [Instr.next, Sem.run_bind, hget, Result.andThen_ok, hlt, if_false, Sem.run_pure]
    refine wp_ok hr ⟨fun h => by simp [ho, quietW] at h, _, sim_put hs hS h0 M Step.refl hd (x := .tup [.kb false]) ?_, hf (by show decide (pos < b.size) = false; simp [hlt])⟩
    refine ⟨_, rfl, rfl, fun j y u hy hu => ?_⟩
    match j, hy, hu with
    | 0, hy, hu =>
      obtain rfl : Value.bool false = y := by simpa using hy
      obtain rfl : AV.kb false = u := by simpa using hu
      exact (rfl : Value.bool false = .bool false)
    | j + 1, hy, _ => simp at hy
end
end Go.Proofs.Ytblafdmmebiagaa
namespace Go.Proofs.Ytblafdmmebiagaa
open Go.RowKit Go.Lib
abbrev Eqs := List (AV × AV)
def both : Option Eqs → Option Eqs → Option Eqs
  | some a, some b => some (a ++ b)
  | _, _ => none
def ren0 (ob ob' : List Ob) (ρ : List (Option Nat)) (x x' : AV) : Option Eqs :=
  match x' with
  | .dead => some []
  | .box j off => match ρ[j]? with
    | some (some i) => some [(x, .box i off)]
    | _ => none
  | .iter j => match ρ[j]? with
    | some (some i) => some [(x, .iter i)]
    | _ => none
  | .row j e' => match ob'[j]? with
    | some (.row _ _ _ e2 xs) => if e2 = e' then (match ρ[j]? with
      | some (some i) => (match ob[i]? with
        | some (.row _ _ _ e _) => some [(x, .row i e)]
        | _ => none)
      | some none => some [(x, .val (.slice none 0 0)), (.slc 0 xs, .slc 0 [])]
      | none => none) else none
    | _ => none
  | .val (.bool b) => match x with
    | .kb c => some [(.kb c, .kb b)]
    | _ => some [(x, .val (.bool b))]
  | .val v => some [(x, .val v)]
  | .slc sz xs => some [(x, .slc sz xs)]
  | .ref cs => some [(x, .ref cs)]
  | .opt y => some [(x, .opt y)]
  | .kb b => some [(x, .kb b)]
  | _ => none
def renL (ob ob' : List Ob) (ρ : List (Option Nat)) : List AV → List AV → Option Eqs
  | [], [] => some []
  | x :: r, x' :: r' => both (ren0 ob ob' ρ x x') (renL ob ob' ρ r r')
  | _, _ => none
def ren1 (ob ob' : List Ob) (ρ : List (Option Nat)) (x x' : AV) : Option Eqs :=
  match x' with
  | .agg cs' => match x with
    | .agg cs => renL ob ob' ρ cs cs'
    | _ => none
  | _ => ren0 ob ob' ρ x x'
def renT (s s' : St) (ρ : List (Option Nat)) : List (Nat × AV) → Option Eqs
  | [] => some []
  | (t, x') :: r => both (ren1 s.ob s'.ob ρ (lk t s.tm) x') (renT s s' ρ r)
def renOb (ob ob' : List Ob) (ρ : List (Option Nat)) (i : Option Nat) (o' : Ob) : Option Eqs :=
  match i with
  | some i => match o', ob[i]? with
    | .box cs', some (.box cs) => renL ob ob' ρ cs cs'
    | .fbox cs', some (.fbox cs) => some [(.slc 0 cs, .slc 0 cs')]
    | .row et sz fz _ xs', some (.row et2 sz2 fz2 _ xs) => if et = et2 ∧ sz = sz2 ∧ (fz2 = true → fz = true) then some [(.slc 0 xs, .slc 0 xs')] else none
    | .iter b p, some (.iter b2 p2) => some [(.val (.string b2), .val (.string b)), (.box 0 p2, .box 0 p)]
    | _, _ => none
  | none => match o' with
    | .row _ sz fz _ xs => if 0 < sz ∧ fz = false then some [(.slc 0 xs, .slc 0 [])] else none
    | _ => none
def renOs (ob ob' : List Ob) (ρ : List (Option Nat)) : List (Option Nat) → List Ob → Option Eqs
  | [], [] => some []
  | i :: r, o :: r' => both (renOb ob ob' ρ i o) (renOs ob ob' ρ r r')
  | _, _ => none
def headR (o0 ob ob' : List Ob) (ρ : List (Option Nat)) : Bool := (List.range o0.length).all fun j => ρ[j]? == some (some j) && (match o0[j]?, ob[j]?, ob'[j]? with
  | some (.row _ _ _ e0 _), some (.row _ _ _ e _), some (.row _ _ _ e' _) => e == e' || decide (e0 < e')
  | _, _, _ => true)
def seen (o0 : List Ob) (ρ : List (Option Nat)) (s s' : St) : Option Eqs :=
  if onceR ρ = true ∧ headR o0 s.ob s'.ob ρ = true ∧ o0.length ≤ ρ.length then both (renT s s' ρ s'.tm) (renOs s.ob s'.ob ρ ρ s'.ob) else none
def AllEq : Eqs → Prop
  | [] => True
  | (a, b) :: r => a = b ∧ AllEq r
theorem allEq_append {a b : Eqs} : AllEq (a ++ b) ↔ AllEq a ∧ AllEq b := by
  induction a with
  | nil => simp [AllEq]
  | cons x r ih => obtain ⟨u, v⟩ := x; simp [AllEq, ih, and_assoc]
theorem both_some {x y : Option Eqs} {l : Eqs} (h : both x y = some l) (hl : AllEq l) : (∃ a, x = some a ∧ AllEq a) ∧ ∃ b, y = some b ∧ AllEq b := by
  cases x with
  | none => cases h
  | some a =>
    cases y with
    | none => cases h
    | some b =>
      obtain rfl : a ++ b = l := by simpa [both] using h
      exact ⟨⟨a, rfl, (allEq_append.1 hl).1⟩, b, rfl, (allEq_append.1 hl).2⟩
def Gh.ren (g : Gh) (ρ : List (Option Nat)) : Gh := ⟨g.A, fun b => (g.G b).bind (invR ρ), fun j => match ρ[j]? with | some (some i) => g.loc i | _ => 0, fun b => g.sub b && ((g.G b).bind (invR ρ)).isSome⟩
section
variable {w : World} {g : Gh} {ob ob' : List Ob} {ρ : List (Option Nat)}
theorem invR_get {i j : Nat} (h : invR ρ i = some j) : ρ[j]? = some (some i) := by
  have := List.find?_some h
  simpa using this
theorem onceR_get (h : onceR ρ = true) {i j : Nat} (hj : ρ[j]? = some (some i)) : invR ρ i = some j := by
  have := List.all_eq_true.1 h j (List.mem_range.2 (lt_of_some hj))
  rw [hj] at this
  simpa using this
theorem ren_loc {i j : Nat} (hj : ρ[j]? = some (some i)) : (g.ren ρ).loc j = g.loc i := by simp [Gh.ren, hj]
theorem ren_G (h : onceR ρ = true) {i j b : Nat} (hj : ρ[j]? = some (some i)) (hG : g.G b = some i) : (g.ren ρ).G b = some j := by
  simp [Gh.ren, hG, onceR_get h hj]
theorem ren_Gof {j b : Nat} (hG : (g.ren ρ).G b = some j) : ∃ i, ρ[j]? = some (some i) ∧ g.G b = some i := by
  simp only [Gh.ren, Option.bind_eq_some_iff] at hG
  obtain ⟨i, h1, h2⟩ := hG
  exact ⟨i, invR_get h2, h1⟩
theorem ren_sub (h : onceR ρ = true) {i j b : Nat} (hj : ρ[j]? = some (some i)) (hG : g.G b = some i) : (g.ren ρ).sub b = g.sub b := by
  simp [Gh.ren, hG, onceR_get h hj]
theorem renOs_get : ∀ (r : List (Option Nat)) (os : List Ob) (l : Eqs), renOs ob ob' ρ r os = some l → AllEq l → r.length = os.length ∧ ∀ (j : Nat) i o, r[j]? = some i → os[j]? = some o → ∃ l, renOb ob ob' ρ i o = some l ∧ AllEq l
  | [], [], _, _, _ => ⟨rfl, fun j i o h => by simp at h⟩
  | [], _ :: _, _, h, _ => by cases h
  | _ :: _, [], _, h, _ => by cases h
  | i :: r, o :: os, l, h, hl => by
    obtain ⟨h1, b, h2, hb⟩ := both_some h hl
    obtain ⟨hn, ih⟩ := renOs_get r os b h2 hb
    refine ⟨by simp [hn], fun j i' o' hi ho => ?_⟩
    cases j with
    | zero =>
      obtain rfl : i = i' := by simpa using hi
      obtain rfl : o = o' := by simpa using ho
      exact h1
    | succ j => exact ih j i' o' (by simpa using hi) (by simpa using ho)
theorem renL_get : ∀ (r r' : List AV) (l : Eqs), renL ob ob' ρ r r' = some l → AllEq l → r.length = r'.length ∧ ∀ (j : Nat) x x', r[j]? = some x → r'[j]? = some x' → ∃ l, ren0 ob ob' ρ x x' = some l ∧ AllEq l
  | [], [], _, _, _ => ⟨rfl, fun j i o h => by simp at h⟩
  | [], _ :: _, _, h, _ => by cases h
  | _ :: _, [], _, h, _ => by cases h
  | i :: r, o :: os, l, h, hl => by
    obtain ⟨h1, b, h2, hb⟩ := both_some h hl
    obtain ⟨hn, ih⟩ := renL_get r os b h2 hb
    refine ⟨by simp [hn], fun j i' o' hi ho => ?_⟩
    cases j with
    | zero =>
      obtain rfl : i = i' := by simpa using hi
      obtain rfl : o = o' := by simpa using ho
      exact h1
    | succ j => exact ih j i' o' (by simpa using hi) (by simpa using ho)
def Fits (ob ob' : List Ob) (ρ : List (Option Nat)) : Prop := ρ.length = ob'.length ∧ ∀ (j : Nat) i o, ρ[j]? = some i → ob'[j]? = some o → ∃ l, renOb ob ob' ρ i o = some l ∧ AllEq l
theorem Fits.at_ (h : Fits ob ob' ρ) {i j : Nat} (hj : ρ[j]? = some (some i)) : ∃ o, ob'[j]? = some o ∧ ∃ l, renOb ob ob' ρ (some i) o = some l ∧ AllEq l := by
  have hl : j < ob'.length := h.1 ▸ lt_of_some hj
  exact ⟨_, List.getElem?_eq_getElem hl, h.2 j _ _ hj (List.getElem?_eq_getElem hl)⟩
theorem Fits.isB (h : Fits ob ob' ρ) {i j : Nat} (hj : ρ[j]? = some (some i)) (hb : isBox ob[i]?) : isBox ob'[j]? := by
  obtain ⟨o, ho', l, h1, _⟩ := h.at_ hj
  rw [ho']
  cases hob : ob[i]? with
  | none => rw [hob] at hb; exact hb.elim
  | some q =>
    rw [hob] at hb
    cases q <;> first | exact hb.elim | (cases o <;> first | trivial | (simp [renOb, hob] at h1; done))
theorem Fits.isI (h : Fits ob ob' ρ) {i j : Nat} (hj : ρ[j]? = some (some i)) (hb : isIt ob[i]?) : isIt ob'[j]? := by
  obtain ⟨o, ho', l, h1, _⟩ := h.at_ hj
  rw [ho']
  cases hob : ob[i]? with
  | none => rw [hob] at hb; exact hb.elim
  | some q =>
    rw [hob] at hb
    cases q <;> first | exact hb.elim | (cases o <;> first | trivial | (simp [renOb, hob] at h1; done))
theorem Fits.row (h : Fits ob ob' ρ) {i j et sz e : Nat} {fz : Bool} {xs : List AV} (hj : ρ[j]? = some (some i)) (hb : ob[i]? = some (.row et sz fz e xs)) : ∃ fz' e', ob'[j]? = some (.row et sz fz' e' xs) ∧ (fz = true → fz' = true) := by
  have hl : j < ob'.length := h.1 ▸ lt_of_some hj
  obtain ⟨l, h1, h2⟩ := h.2 j _ _ hj (List.getElem?_eq_getElem hl)
  rw [List.getElem?_eq_getElem hl]
  cases ho : ob'[j] with
  | row et' sz' fz' e' xs' =>
    simp only [renOb, ho, hb] at h1
    split at h1
    · rename_i hk
      obtain ⟨rfl, rfl, hk⟩ := hk
      cases h1
      obtain ⟨h3, _⟩ := h2
      cases h3
      exact ⟨fz', e', rfl, hk⟩
    · cases h1
  | _ => simp [renOb, ho, hb] at h1
theorem ren0_rel (hF : Fits ob ob' ρ) (ho : onceR ρ = true) {v : Value} {x x' : AV} {l : Eqs} (h : ARel0 w g ob v x) (he : ren0 ob ob' ρ x x' = some l) (hl : AllEq l) : ARel0 w (g.ren ρ) ob' v x' := by
  have one : ∀ y, some [(x, y)] = some l → x = y := fun y hy => by cases hy; exact hl.1
  cases x' with
  | dead => trivial
  | box j off =>
    simp only [ren0] at he
    split at he
    · rename_i i hj
      cases one _ he
      exact ⟨by rw [ren_loc hj]; exact h.1, hF.isB hj h.2⟩
    · cases he
  | iter j =>
    simp only [ren0] at he
    split at he
    · rename_i i hj
      cases one _ he
      exact ⟨by rw [ren_loc hj]; exact h.1, hF.isI hj h.2⟩
    · cases he
  | row j e' =>
    simp only [ren0] at he
    split at he
    · rename_i et' sz' fz' e2 xs' hob'
      split at he
      · rename_i hee
        subst hee
        split at he
        · rename_i i hj
          split at he
          · rename_i et sz fz e xs hob
            cases one _ he
            obtain ⟨h1, et3, sz3, fz3, e3, xs3, h2, h3, h4⟩ := h
            rw [hob] at h2; cases h2
            obtain ⟨fz4, e4, h5, h6⟩ := hF.row hj hob
            rw [hob'] at h5; cases h5
            refine ⟨h1, _, _, _, _, _, hob', Nat.le_refl _, fun _ => ?_⟩
            obtain ⟨ys, h7, h8, h9, h10, h11⟩ := h4 rfl
            exact ⟨ys, h7, fun b hb => ren_G ho hj (h8 b hb), h9, h10, h11.ext h8 fun b hb => ⟨ren_G ho hj hb, ren_sub ho hj hb, fun _ => ⟨rfl, fun _ h => h⟩⟩⟩
          · cases he
        · rename_i hj
          cases he
          obtain ⟨h1, h2, _⟩ := hl
          subst h1
          cases h2
          cases (show v = _ from ARel.valEq (g := g) (w := w) (ob := ob) h)
          refine ⟨rfl, _, _, _, _, _, hob', Nat.le_refl _, fun _ => ⟨[], World.ownsRow_nil _ _ _ _, (fun b h => by cases h), Alike.nil, (fun x h => by cases h), (fun b h => by cases h), (fun _ j y h => by simp at h)⟩⟩
        · cases he
      · cases he
    · cases he
  | val u =>
    have gen : x = .val u → ARel0 w (g.ren ρ) ob' v (.val u) := fun e => by subst e; exact h
    cases u with
    | bool b =>
      simp only [ren0] at he
      split at he
      · rename_i c
        cases he
        obtain ⟨h1, _⟩ := hl
        cases h1
        have e : v = .bool b := h
        subst e
        exact PRel.val _ rfl
      · exact gen (one _ he)
    | _ => exact gen (one _ he)
  | slc sz xs => cases one _ he; exact h
  | ref cs => cases one _ he; exact h
  | opt y => cases one _ he; exact h
  | kb b => cases one _ he; exact h
  | _ => cases he
theorem renL_rel (hF : Fits ob ob' ρ) (ho : onceR ρ = true) {vs : List Value} {cs cs' : List AV} {l : Eqs} (h : ARelC w g ob vs cs) (he : renL ob ob' ρ cs cs' = some l) (hl : AllEq l) : ARelC w (g.ren ρ) ob' vs cs' := by
  obtain ⟨hn, hg⟩ := renL_get _ _ _ he hl
  refine ⟨by rw [h.1, hn], fun j y u hy hu => ?_⟩
  have hj : j < cs.length := by rw [hn]; exact lt_of_some hu
  obtain ⟨l', h1, h2⟩ := hg j _ _ (List.getElem?_eq_getElem hj) hu
  obtain ⟨h3, h4⟩ := h.2 j y _ hy (List.getElem?_eq_getElem hj)
  exact ⟨ren0_rel hF ho h3 h1 h2, h4⟩
theorem ren0_flat {x x' : AV} {l : Eqs} (he : ren0 ob ob' ρ x x' = some l) (hl : AllEq l) : x' = .dead ∨ ((∀ cs, x ≠ .agg cs) ∧ ∀ cs, x ≠ .tup cs) := by
  have one : ∀ y, some [(x, y)] = some l → x = y := fun y hy => by cases hy; exact hl.1
  have fin : ∀ y, x = y → ((∀ cs, y ≠ .agg cs) ∧ ∀ cs, y ≠ .tup cs) → x' = .dead ∨ ((∀ cs, x ≠ .agg cs) ∧ ∀ cs, x ≠ .tup cs) := fun y h hy => .inr (h ▸ hy)
  cases x' with
  | dead => exact .inl rfl
  | box j off =>
    simp only [ren0] at he
    split at he
    · exact fin _ (one _ he) ⟨(fun cs h => by cases h), (fun cs h => by cases h)⟩
    · cases he
  | iter j =>
    simp only [ren0] at he
    split at he
    · exact fin _ (one _ he) ⟨(fun cs h => by cases h), (fun cs h => by cases h)⟩
    · cases he
  | row j e' =>
    simp only [ren0] at he
    split at he
    · split at he
      · split at he
        · split at he
          · exact fin _ (one _ he) ⟨(fun cs h => by cases h), (fun cs h => by cases h)⟩
          · cases he
        · cases he
          exact fin _ hl.1 ⟨(fun cs h => by cases h), (fun cs h => by cases h)⟩
        · cases he
      · cases he
    · cases he
  | val u =>
    cases u with
    | bool b =>
      simp only [ren0] at he
      split at he
      · exact .inr ⟨(fun cs h => by cases h), (fun cs h => by cases h)⟩
      · exact fin _ (one _ he) ⟨(fun cs h => by cases h), (fun cs h => by cases h)⟩
    | _ => exact fin _ (one _ he) ⟨(fun cs h => by cases h), (fun cs h => by cases h)⟩
  | slc sz xs => exact fin _ (one _ he) ⟨(fun cs h => by cases h), (fun cs h => by cases h)⟩
  | ref cs => exact fin _ (one _ he) ⟨(fun cs h => by cases h), (fun cs h => by cases h)⟩
  | opt y => exact fin _ (one _ he) ⟨(fun cs h => by cases h), (fun cs h => by cases h)⟩
  | kb b => exact fin _ (one _ he) ⟨(fun cs h => by cases h), (fun cs h => by cases h)⟩
  | _ => cases he
theorem ren1_rel (hF : Fits ob ob' ρ) (ho : onceR ρ = true) {v : Value} {x x' : AV} {l : Eqs} (h : ARel w g ob v x) (he : ren1 ob ob' ρ x x' = some l) (hl : AllEq l) : ARel w (g.ren ρ) ob' v x' := by
  have gen : ren0 ob ob' ρ x x' = some l → ARel w (g.ren ρ) ob' v x' := fun he => by
    have hx : ARel0 w g ob v x ∨ x' = .dead := by
      rcases ren0_flat he hl with h1 | ⟨h1, h2⟩
      · exact .inr h1
      · left
        cases x <;> first | exact h | exact absurd rfl (h1 _) | exact absurd rfl (h2 _)
    rcases hx with hx | rfl
    · exact (ren0_rel hF ho hx he hl).to
    · trivial
  cases x' with
  | agg cs' =>
    simp only [ren1] at he
    split at he
    · obtain ⟨vs, rfl, hc⟩ := h
      exact ⟨vs, rfl, renL_rel hF ho hc he hl⟩
    · cases he
  | _ => exact gen he
theorem Mem.ren (M : Mem w g ob) (hF : Fits ob ob' ρ) (ho : onceR ρ = true) : Mem w (g.ren ρ) ob' := by
  have get : ∀ (j : Nat) o, ob'[j]? = some o → ∃ i, ρ[j]? = some i ∧ ∃ l, renOb ob ob' ρ i o = some l ∧ AllEq l := fun j o h => by
    have hj : j < ρ.length := hF.1 ▸ lt_of_some h
    exact ⟨_, List.getElem?_eq_getElem hj, hF.2 j _ o (List.getElem?_eq_getElem hj) h⟩
  refine ⟨fun j cs' h => ?_, fun j cs' h k u hk => ?_, fun j s pos h => ?_, fun b j h => ?_, fun b o hA => ⟨(M.imm b o hA).1, fun j h hs => ?_⟩, fun j et sz fz e xs h => ?_, fun b hs => ?_, fun b b' j h1 h2 hs hs' => ?_⟩
  · obtain ⟨i, hi, l, h1, h2⟩ := get j _ h
    cases i with
    | none => cases h1
    | some i =>
      simp only [renOb] at h1
      split at h1 <;> first | (rename_i heq _; cases heq; done) | skip
      · rename_i cs2 cs heq hob
        cases heq
        obtain ⟨hG, cur, T, h3, h4⟩ := M.box i cs hob
        exact ⟨by rw [ren_loc hi]; exact ren_G ho hi hG, cur, T, by rw [ren_loc hi]; exact h3, renL_rel hF ho h4 h1 h2⟩
      · cases h1
  · obtain ⟨i, hi, l, h1, h2⟩ := get j _ h
    cases i with
    | none => cases h1
    | some i =>
      simp only [renOb] at h1
      split at h1 <;> first | (rename_i heq _; cases heq; done) | skip
      · rename_i cs2 cs heq hob
        cases heq
        cases h1
        obtain ⟨h3, _⟩ := h2
        cases h3
        have := M.fbox i _ hob k u hk
        rw [ren_loc hi]
        exact this
      · cases h1
  · obtain ⟨i, hi, l, h1, h2⟩ := get j _ h
    cases i with
    | none => cases h1
    | some i =>
      simp only [renOb] at h1
      split at h1 <;> first | (rename_i heq _; cases heq; done) | skip
      · rename_i heq hob
        cases heq
        cases h1
        obtain ⟨h3, h4, _⟩ := h2
        cases h3
        cases h4
        obtain ⟨hG, h5⟩ := M.iter i _ _ hob
        exact ⟨by rw [ren_loc hi]; exact ren_G ho hi hG, by rw [ren_loc hi]; exact h5⟩
      · cases h1
  · obtain ⟨i, hi, hG⟩ := ren_Gof h
    exact ⟨(M.own b i hG).1, hF.1 ▸ lt_of_some hi⟩
  · obtain ⟨i, hi, hG⟩ := ren_Gof h
    obtain ⟨et, sz, e, xs, h1, h2⟩ := (M.imm b o hA).2 i hG (by rw [← ren_sub ho hi hG]; exact hs)
    obtain ⟨fz', e', h3, h4⟩ := hF.row hi h1
    obtain rfl := h4 rfl
    exact ⟨et, sz, e', xs, h3, h2⟩
  · obtain ⟨i, hi, l, h1, h2⟩ := get j _ h
    cases i with
    | none =>
      simp only [renOb] at h1
      split at h1
      · rename_i hk
        cases h1
        obtain ⟨h3, _⟩ := h2
        cases h3
        exact ⟨hk.1, fun x h => by cases h⟩
      · cases h1
    | some i =>
      simp only [renOb] at h1
      split at h1 <;> first | (rename_i heq _; cases heq; done) | skip
      · rename_i heq hob
        cases heq
        split at h1
        · rename_i hk
          obtain ⟨rfl, rfl, _⟩ := hk
          cases h1
          obtain ⟨h3, _⟩ := h2
          cases h3
          exact M.roww i _ _ _ _ _ hob
        · cases h1
      · cases h1
  · simp only [Gh.ren, Bool.and_eq_true] at hs
    obtain ⟨j, hj⟩ := Option.isSome_iff_exists.1 hs.2
    obtain ⟨i, et, sz, fz, e, xs, h1, h2⟩ := M.nsub b hs.1
    obtain ⟨i', hi, hG⟩ := ren_Gof (g := g) (ρ := ρ) hj
    rw [h1] at hG
    obtain rfl : i = i' := by simpa using hG
    obtain ⟨fz', e', h3, _⟩ := hF.row hi h2
    exact ⟨j, _, _, _, _, _, hj, h3⟩
  · obtain ⟨i, hi, hG⟩ := ren_Gof h1
    obtain ⟨i', hi', hG'⟩ := ren_Gof h2
    obtain rfl : i = i' := by
      have := hi.symm.trans hi'
      simpa using this
    exact M.uniq b b' i hG hG' (by rw [← ren_sub ho hi hG]; exact hs) (by rw [← ren_sub ho hi' hG']; exact hs')
end
end Go.Proofs.Ytblafdmmebiagaa
namespace Go.Proofs.Ytblafdmmebiagaa
open Go.RowKit Go.Lib
theorem posOf_get {i : Nat} : ∀ {ρ : List Nat} {j : Nat}, posOf i ρ = some j → ρ[j]? = some i
  | [], j, h => by cases h
  | k :: r, j, h => by
    simp only [posOf] at h
    split at h
    · rename_i e
      cases h; subst e; rfl
    · obtain ⟨j', h1, rfl⟩ := Option.map_eq_some_iff.1 h
      simpa using posOf_get h1
theorem posOf_some {i : Nat} : ∀ {ρ : List Nat} {j : Nat}, ρ[j]? = some i → ∃ j', posOf i ρ = some j'
  | [], j, h => by simp at h
  | k :: r, j, h => by
    simp only [posOf]
    split
    · exact ⟨0, rfl⟩
    · rename_i hne
      cases j with
      | zero => exact absurd (by simpa using h.symm) hne
      | succ j =>
        obtain ⟨j', h1⟩ := posOf_some (ρ := r) (j := j) (by simpa using h)
        exact ⟨j' + 1, by rw [h1]; rfl⟩
section
variable {ob : List Ob} {ρ : List Nat}
theorem map_get {j i : Nat} (h : ρ[j]? = some i) : (ρ.map some)[j]? = some (some i) := by rw [List.getElem?_map, h]; rfl
theorem get_map {j i : Nat} (h : (ρ.map some)[j]? = some (some i)) : ρ[j]? = some i := by
  rw [List.getElem?_map, Option.map_eq_some_iff] at h
  obtain ⟨k, h1, h2⟩ := h
  cases h2; exact h1
theorem posOf_once (h : onceR (ρ.map some) = true) {i j : Nat} (hj : ρ[j]? = some i) : posOf i ρ = some j := by
  obtain ⟨j', hj'⟩ := posOf_some hj
  have h1 := onceR_get h (map_get hj)
  have h2 := onceR_get h (map_get (posOf_get hj'))
  rw [h1] at h2
  cases h2; exact hj'
abbrev inObs (ob : List Ob) (ρ : List Nat) : List Ob := ρ.map fun i => inO ob ρ (ob.getD i .gone)
theorem inObs_get {i j : Nat} (hj : ρ[j]? = some i) : (inObs ob ρ)[j]? = some (inO ob ρ (ob.getD i .gone)) := by
  simp only [inObs, List.getElem?_map, hj, Option.map_some]
theorem getD_of {i : Nat} {o : Ob} (h : ob[i]? = some o) : ob.getD i .gone = o := by rw [List.getD_eq_getElem?_getD, h]; rfl
theorem ren0_in (x : AV) : ∃ l, ren0 ob (inObs ob ρ) (ρ.map some) x (inC ob ρ x) = some l ∧ AllEq l := by
  have dead : ∃ l, ren0 ob (inObs ob ρ) (ρ.map some) x .dead = some l ∧ AllEq l := ⟨[], rfl, trivial⟩
  cases x with
  | val v => cases v <;> exact ⟨_, rfl, rfl, trivial⟩
  | slc sz xs => exact ⟨_, rfl, rfl, trivial⟩
  | ref cs => exact ⟨_, rfl, rfl, trivial⟩
  | opt y => exact ⟨_, rfl, rfl, trivial⟩
  | kb b => exact ⟨_, rfl, rfl, trivial⟩
  | box i o =>
    simp only [inC]
    split
    · rename_i j hj
      exact ⟨[(.box i o, .box i o)], by simp only [ren0, map_get (posOf_get hj)], rfl, trivial⟩
    · exact dead
  | row i e =>
    simp only [inC]
    split
    · rename_i j hj
      split
      · rename_i et sz fz e2 xs hob
        split
        · rename_i he
          subst he
          refine ⟨[(.row i e2, .row i e2)], ?_, rfl, trivial⟩
          have h1 := inObs_get (ob := ob) (posOf_get hj)
          rw [getD_of hob] at h1
          simp only [ren0, h1, inO, if_true, map_get (posOf_get hj), hob]
        · exact dead
      · exact dead
    · exact dead
  | _ => exact dead
theorem renL_in : ∀ (xs : List AV), ∃ l, renL ob (inObs ob ρ) (ρ.map some) xs (xs.map (inC ob ρ)) = some l ∧ AllEq l
  | [] => ⟨[], rfl, trivial⟩
  | x :: r => by
    obtain ⟨l1, h1, h2⟩ := ren0_in (ob := ob) (ρ := ρ) x
    obtain ⟨l2, h3, h4⟩ := renL_in r
    exact ⟨l1 ++ l2, by simp only [List.map_cons, renL, h1, h3, both], allEq_append.2 ⟨h2, h4⟩⟩
theorem ren1_in (x : AV) : ∃ l, ren1 ob (inObs ob ρ) (ρ.map some) x (inA ob ρ x) = some l ∧ AllEq l := by
  cases x with
  | agg cs => exact renL_in cs
  | val v => exact ren0_in (ob := ob) (ρ := ρ) (.val v)
  | slc sz xs => exact ren0_in (ob := ob) (ρ := ρ) (.slc sz xs)
  | ref cs => exact ren0_in (ob := ob) (ρ := ρ) (.ref cs)
  | opt y => exact ren0_in (ob := ob) (ρ := ρ) (.opt y)
  | kb b => exact ren0_in (ob := ob) (ρ := ρ) (.kb b)
  | box i o =>
    obtain ⟨l, h1, h2⟩ := ren0_in (ob := ob) (ρ := ρ) (.box i o)
    refine ⟨l, ?_, h2⟩
    show ren1 _ _ _ _ (inC ob ρ (.box i o)) = _
    revert h1
    simp only [inC]
    split <;> exact id
  | row i e =>
    obtain ⟨l, h1, h2⟩ := ren0_in (ob := ob) (ρ := ρ) (.row i e)
    refine ⟨l, ?_, h2⟩
    show ren1 _ _ _ _ (inC ob ρ (.row i e)) = _
    revert h1
    simp only [inC]
    split <;> (try split) <;> (try split) <;> exact id
  | _ => exact ⟨[], rfl, trivial⟩
theorem fits_in (ht : there ob ρ = true) : Fits ob (inObs ob ρ) (ρ.map some) := by
  refine ⟨by simp, fun j i o hi ho => ?_⟩
  rw [List.getElem?_map, Option.map_eq_some_iff] at hi
  obtain ⟨k, hk, rfl⟩ := hi
  rw [inObs_get hk] at ho
  cases ho
  have h := List.all_eq_true.1 ht k (List.mem_of_getElem? hk)
  cases hob : ob[k]? with
  | none => rw [hob] at h; cases h
  | some q =>
    rw [getD_of hob]
    cases q with
    | gone => rw [hob] at h; cases h
    | box cs => simp only [inO, renOb, hob]; exact renL_in cs
    | fbox cs => exact ⟨[(.slc 0 cs, .slc 0 cs)], by simp only [inO, renOb, hob], rfl, trivial⟩
    | row et sz fz e xs => exact ⟨[(.slc 0 xs, .slc 0 xs)], by simp only [inO, renOb, hob]; simp, rfl, trivial⟩
    | iter s p => exact ⟨[(.val (.string s), .val (.string s)), (.box 0 p, .box 0 p)], by simp only [inO, renOb, hob], rfl, rfl, trivial⟩
theorem inA_rel {w : World} {g : Gh} (ho : onceR (ρ.map some) = true) (ht : there ob ρ = true) {v : Value} {x : AV} (h : ARel w g ob v x) : ARel w (g.ren (ρ.map some)) (inObs ob ρ) v (inA ob ρ x) := by
  obtain ⟨l, h1, h2⟩ := ren1_in (ob := ob) (ρ := ρ) x
  exact ren1_rel (fits_in ht) ho h h1 h2
theorem mem_in {w : World} {g : Gh} (M : Mem w g ob) (ho : onceR (ρ.map some) = true) (ht : there ob ρ = true) : Mem w (g.ren (ρ.map some)) (inObs ob ρ) := M.ren (fits_in ht) ho
end
def Gh.out (g g' : Gh) (ρ : List Nat) (n : Nat) : Gh where
  A := g'.A
  G b := match g'.G b with
    | some j => some (outI ρ n j)
    | none => match g.G b with
      | some id => match posOf id ρ with
        | some _ => none
        | none => some id
      | none => none
  loc id := match posOf id ρ with
    | some j => g'.loc j
    | none => if id < n then g.loc id else g'.loc (ρ.length + (id - n))
  sub b := match g'.G b with
    | some _ => g'.sub b
    | none => match g.G b with
      | some id => match posOf id ρ with
        | some _ => false
        | none => g.sub b
      | none => false
section
variable {w w' : World} {g g' : Gh} {ob ob' : List Ob} {ρ : List Nat}
structure CallAt (w : World) (g : Gh) (ob : List Ob) (ρ : List Nat) (w' : World) (g' : Gh) (ob' : List Ob) : Prop where
  once : onceR (ρ.map some) = true
  there : there ob ρ = true
  len : ρ.length ≤ ob'.length
  m : Mem w g ob
  m' : Mem w' g' ob'
  st : Step w (g.ren (ρ.map some)) (inObs ob ρ) w' g' ob'
theorem CallAt.lt (C : CallAt w g ob ρ w' g' ob') {i j : Nat} (hj : ρ[j]? = some i) : i < ob.length := by
  have h := List.all_eq_true.1 C.there i (List.mem_of_getElem? hj)
  cases hob : ob[i]? with
  | none => rw [hob] at h; cases h
  | some _ => exact lt_of_some hob
theorem CallAt.outI_lt (C : CallAt w g ob ρ w' g' ob') {j : Nat} (hj : j < ob'.length) : outI ρ ob.length j < ob.length + (ob'.length - ρ.length) := by
  unfold outI
  split
  · rename_i h
    have h1 : ρ[j]? = some (ρ.getD j 0) := by rw [List.getD_eq_getElem?_getD, List.getElem?_eq_getElem h]; rfl
    have := C.lt h1
    omega
  · have := C.len; omega
theorem CallAt.outI_at (C : CallAt w g ob ρ w' g' ob') (j : Nat) : (j < ρ.length ∧ ρ[j]? = some (outI ρ ob.length j) ∧ outI ρ ob.length j < ob.length) ∨ (ρ.length ≤ j ∧ outI ρ ob.length j = ob.length + (j - ρ.length)) := by
  unfold outI
  split
  · rename_i h
    have h1 : ρ[j]? = some (ρ.getD j 0) := by rw [List.getD_eq_getElem?_getD, List.getElem?_eq_getElem h]; rfl
    exact .inl ⟨h, h1, C.lt h1⟩
  · exact .inr ⟨by omega, rfl⟩
theorem CallAt.outI_inj (C : CallAt w g ob ρ w' g' ob') {j j' : Nat} (h : outI ρ ob.length j = outI ρ ob.length j') : j = j' := by
  rcases C.outI_at j with ⟨h1, h2, h3⟩ | ⟨h1, h2⟩ <;> rcases C.outI_at j' with ⟨h4, h5, h6⟩ | ⟨h4, h5⟩
  · rw [h] at h2
    have := (posOf_once C.once h2).symm.trans (posOf_once C.once h5)
    exact Option.some.inj this
  · omega
  · omega
  · omega
theorem CallAt.outI_not (C : CallAt w g ob ρ w' g' ob') {j : Nat} (hp : posOf (outI ρ ob.length j) ρ = none) (hl : outI ρ ob.length j < ob.length) : False := by
  rcases C.outI_at j with ⟨h1, h2, h3⟩ | ⟨h1, h2⟩
  · rw [posOf_once C.once h2] at hp; cases hp
  · omega
theorem CallAt.back_len (C : CallAt w g ob ρ w' g' ob') : (back ob ρ ob').length = ob.length + (ob'.length - ρ.length) := by simp [back]
theorem CallAt.back_out (C : CallAt w g ob ρ w' g' ob') {j : Nat} {o : Ob} (hj : ob'[j]? = some o) : (back ob ρ ob')[outI ρ ob.length j]? = some (outO ob ρ j o) := by
  have hl := lt_of_some hj
  have h1 := C.outI_lt hl
  simp only [back, List.getElem?_map, List.getElem?_range h1, Option.map_some]
  unfold outI
  by_cases h : j < ρ.length
  · rw [if_pos h]
    have h2 : ρ[j]? = some (ρ.getD j 0) := by rw [List.getD_eq_getElem?_getD, List.getElem?_eq_getElem h]; rfl
    simp only [posOf_once C.once h2, getD_of hj]
  · rw [if_neg h]
    have h2 : posOf (ob.length + (j - ρ.length)) ρ = none := by
      cases hp : posOf (ob.length + (j - ρ.length)) ρ with
      | none => rfl
      | some k => have := C.lt (posOf_get hp); omega
    have h3 : ¬ (ob.length + (j - ρ.length) < ob.length) := by omega
    have h4 : ρ.length + (ob.length + (j - ρ.length) - ob.length) = j := by omega
    simp only [h2, h3, if_false, h4, getD_of hj]
theorem CallAt.back_own (C : CallAt w g ob ρ w' g' ob') {id : Nat} (hid : id < ob.length) (hp : posOf id ρ = none) : (back ob ρ ob')[id]? = ob[id]? := by
  have h1 : id < ob.length + (ob'.length - ρ.length) := by omega
  simp only [back, List.getElem?_map, List.getElem?_range h1, Option.map_some, hp, hid, if_true]
  rw [List.getElem?_eq_getElem hid, List.getD_eq_getElem?_getD, List.getElem?_eq_getElem hid]; rfl
theorem CallAt.back_cases (C : CallAt w g ob ρ w' g' ob') {id : Nat} {o : Ob} (h : (back ob ρ ob')[id]? = some o) :
    (∃ j o', ob'[j]? = some o' ∧ id = outI ρ ob.length j ∧ o = outO ob ρ j o') ∨ (id < ob.length ∧ posOf id ρ = none ∧ ob[id]? = some o) := by
  have hlt := lt_of_some h
  rw [C.back_len] at hlt
  cases hp : posOf id ρ with
  | some j =>
    left
    have hj := posOf_get hp
    have hl : j < ob'.length := Nat.lt_of_lt_of_le (lt_of_some hj) C.len
    have e : outI ρ ob.length j = id := by
      unfold outI
      rw [if_pos (lt_of_some hj), List.getD_eq_getElem?_getD, hj]; rfl
    refine ⟨j, _, List.getElem?_eq_getElem hl, e.symm, ?_⟩
    have h2 := C.back_out (List.getElem?_eq_getElem hl)
    rw [e, h] at h2
    exact Option.some.inj h2
  | none =>
    by_cases hid : id < ob.length
    · rw [C.back_own hid hp] at h
      exact .inr ⟨hid, rfl, h⟩
    · left
      have hl : ρ.length + (id - ob.length) < ob'.length := by have := C.len; omega
      have e : outI ρ ob.length (ρ.length + (id - ob.length)) = id := by
        unfold outI
        rw [if_neg (by omega)]; omega
      refine ⟨_, _, List.getElem?_eq_getElem hl, e.symm, ?_⟩
      have h2 := C.back_out (List.getElem?_eq_getElem hl)
      rw [e, h] at h2
      exact Option.some.inj h2
theorem CallAt.loc_out (C : CallAt w g ob ρ w' g' ob') {j : Nat} : (g.out g' ρ ob.length).loc (outI ρ ob.length j) = g'.loc j := by
  unfold outI
  by_cases h : j < ρ.length
  · rw [if_pos h]
    have h2 : ρ[j]? = some (ρ.getD j 0) := by rw [List.getD_eq_getElem?_getD, List.getElem?_eq_getElem h]; rfl
    simp only [Gh.out, posOf_once C.once h2]
  · rw [if_neg h]
    have h2 : posOf (ob.length + (j - ρ.length)) ρ = none := by
      cases hp : posOf (ob.length + (j - ρ.length)) ρ with
      | none => rfl
      | some k => have := C.lt (posOf_get hp); omega
    have h3 : ¬ (ob.length + (j - ρ.length) < ob.length) := by omega
    have h4 : ρ.length + (ob.length + (j - ρ.length) - ob.length) = j := by omega
    simp only [Gh.out, h2, h3, if_false, h4]
theorem out_sub {j b : Nat} (h : g'.G b = some j) : (g.out g' ρ ob.length).sub b = g'.sub b := by simp only [Gh.out, h]
theorem out_sub' {id b : Nat} (h : g'.G b = none) (h1 : g.G b = some id) (hp : posOf id ρ = none) : (g.out g' ρ ob.length).sub b = g.sub b := by simp only [Gh.out, h, h1, hp]
theorem out_G {j b : Nat} (h : g'.G b = some j) : (g.out g' ρ ob.length).G b = some (outI ρ ob.length j) := by simp only [Gh.out, h]
theorem CallAt.own_G (C : CallAt w g ob ρ w' g' ob') {b id : Nat} (h : g.G b = some id) (hp : posOf id ρ = none) :
    (g.ren (ρ.map some)).G b = none ∧ g'.G b = none ∧ (g.out g' ρ ob.length).G b = some id ∧ w'.heap[b]? = w.heap[b]? := by
  have h1 : (g.ren (ρ.map some)).G b = none := by
    cases hr : (g.ren (ρ.map some)).G b with
    | none => rfl
    | some j =>
      obtain ⟨i, hi, hG⟩ := ren_Gof hr
      rw [h] at hG; cases hG
      obtain ⟨j', hj'⟩ := posOf_some (get_map hi)
      rw [hp] at hj'; cases hj'
  have hb := (C.m.own b id h).1
  have h2 : g'.G b = none := by
    cases hr : g'.G b with
    | none => rfl
    | some j =>
      rcases C.st.own b j hr with ⟨k, hk⟩ | hk
      · rw [h1] at hk; cases hk
      · omega
  exact ⟨h1, h2, by simp only [Gh.out, h2, h, hp], C.st.keep b hb h1⟩
theorem CallAt.G_cases (C : CallAt w g ob ρ w' g' ob') {b id : Nat} (h : (g.out g' ρ ob.length).G b = some id) :
    (∃ j, g'.G b = some j ∧ id = outI ρ ob.length j) ∨ (g'.G b = none ∧ g.G b = some id ∧ posOf id ρ = none) := by
  simp only [Gh.out] at h
  cases h1 : g'.G b with
  | some j => rw [h1] at h; exact .inl ⟨j, rfl, (Option.some.inj h).symm⟩
  | none =>
    rw [h1] at h
    cases h2 : g.G b with
    | none => rw [h2] at h; cases h
    | some k =>
      rw [h2] at h
      cases h3 : posOf k ρ with
      | some _ => simp only [h3] at h; cases h
      | none => simp only [h3] at h; cases h; exact .inr ⟨rfl, rfl, h3⟩
theorem outO_box {j : Nat} {o : Ob} (h : isBox (some o)) : isBox (some (outO ob ρ j o)) := by cases o <;> first | exact h.elim | trivial
theorem outO_it {j : Nat} {o : Ob} (h : isIt (some o)) : isIt (some (outO ob ρ j o)) := by cases o <;> first | exact h.elim | trivial
theorem CallAt.isb_out (C : CallAt w g ob ρ w' g' ob') {j : Nat} (h : isBox ob'[j]?) : isBox (back ob ρ ob')[outI ρ ob.length j]? := by
  have hl := isBox_lt h
  rw [List.getElem?_eq_getElem hl] at h
  rw [C.back_out (List.getElem?_eq_getElem hl)]
  exact outO_box h
theorem CallAt.isi_out (C : CallAt w g ob ρ w' g' ob') {j : Nat} (h : isIt ob'[j]?) : isIt (back ob ρ ob')[outI ρ ob.length j]? := by
  have hl := isIt_lt h
  rw [List.getElem?_eq_getElem hl] at h
  rw [C.back_out (List.getElem?_eq_getElem hl)]
  exact outO_it h
theorem outI_of {i j : Nat} (hj : ρ[j]? = some i) (n : Nat) : outI ρ n j = i := by
  unfold outI
  rw [if_pos (lt_of_some hj), List.getD_eq_getElem?_getD, hj]; rfl
theorem CallAt.ext (C : CallAt w g ob ρ w' g' ob') : Ext w g ob w' (g.out g' ρ ob.length) (back ob ρ ob') := by
  refine ⟨C.st.ext.A, fun id hid => ?_, fun id hb => ?_, fun id hb => ?_, fun id et sz fz e xs hr => ?_, fun b id hG hs => ?_⟩
  rotate_right
  · obtain ⟨et, sz, fz, fz', e, xs, xs', h1, h2⟩ := hs
    cases hp : posOf id ρ with
    | none =>
      obtain ⟨h3, h4, h5, h6⟩ := C.own_G hG hp
      refine ⟨out_sub' h4 hG hp, fun _ o hA => ?_⟩
      rcases C.st.imm b o hA with h7 | ⟨k, h7⟩ | h7
      · exact h7
      · rw [h3] at h7; cases h7
      · have := (C.m.own b id hG).1; omega
    | some j =>
      have hj := posOf_get hp
      have h3 : (inObs ob ρ)[j]? = some (.row et sz fz 0 xs) := by rw [inObs_get hj, getD_of h1]; rfl
      obtain ⟨fz2, e2, xs2, h4, _, h5⟩ := C.st.ext.row j _ _ _ _ _ h3
      have h6 := C.back_out h4
      rw [outI_of hj, h2] at h6
      have h7 : outE ob ρ j = e := by simp only [outE, hj, epOf, h1]
      simp only [outO, h7] at h6
      have h8 : e2 = 0 := by
        have h9 : e = e + e2 := by injection h6 with h6; injection h6
        omega
      subst h8
      have hG2 := ren_G (g := g) C.once (map_get hj) hG
      obtain ⟨h9, h10⟩ := C.st.ext.sub b j hG2 ⟨_, _, _, _, _, _, _, h3, h4⟩
      have hs2 := ren_sub (g := g) C.once (map_get hj) hG
      refine ⟨(out_sub ((h5 rfl).2 b hG2).1).trans (h9.trans hs2), fun hsb o hA => h10 (hs2.trans hsb) o hA⟩
  · cases hp : posOf id ρ with
    | none => simp only [Gh.out, hp, hid, if_true]
    | some j =>
      have hj := posOf_get hp
      simp only [Gh.out, hp]
      rw [C.st.ext.loc j (by simpa using lt_of_some hj), ren_loc (map_get hj)]
  · cases hp : posOf id ρ with
    | none => rw [C.back_own (isBox_lt hb) hp]; exact hb
    | some j =>
      have hj := posOf_get hp
      have := C.isb_out (C.st.ext.isb j ((fits_in C.there).isB (map_get hj) hb))
      rw [outI_of hj] at this; exact this
  · cases hp : posOf id ρ with
    | none => rw [C.back_own (isIt_lt hb) hp]; exact hb
    | some j =>
      have hj := posOf_get hp
      have := C.isi_out (C.st.ext.isi j ((fits_in C.there).isI (map_get hj) hb))
      rw [outI_of hj] at this; exact this
  · cases hp : posOf id ρ with
    | none =>
      refine ⟨fz, e, xs, by rw [C.back_own (lt_of_some hr) hp]; exact hr, Nat.le_refl _, fun _ => ⟨rfl, fun b hb => ?_⟩⟩
      obtain ⟨_, _, h3, h4⟩ := C.own_G hb hp
      exact ⟨h3, h4⟩
    | some j =>
      have hj := posOf_get hp
      have h1 : (inObs ob ρ)[j]? = some (.row et sz fz 0 xs) := by rw [inObs_get hj, getD_of hr]; rfl
      obtain ⟨fz', e', xs', h2, h3, h4⟩ := C.st.ext.row j _ _ _ _ _ h1
      have h5 := C.back_out h2
      rw [outI_of hj] at h5
      have h6 : outE ob ρ j = e := by simp only [outE, hj, epOf, hr]
      refine ⟨fz', e + e', xs', by rw [h5, ← h6]; rfl, by omega, fun he => ?_⟩
      obtain ⟨h7, h8⟩ := h4 (by omega)
      refine ⟨h7, fun b hb => ?_⟩
      obtain ⟨h9, h10⟩ := h8 b (ren_G C.once (map_get hj) hb)
      refine ⟨?_, h10⟩
      rw [out_G h9, outI_of hj]
theorem CallAt.row_out (C : CallAt w g ob ρ w' g' ob') {j et sz : Nat} {v : Value} {xs : List AV} (h : RowV w' g' j et sz v xs) : RowV w' (g.out g' ρ ob.length) (outI ρ ob.length j) et sz v xs := by
  obtain ⟨ys, h1, h2, h3, h4, h5⟩ := h
  exact ⟨ys, h1, fun b hb => out_G (h2 b hb), h3, h4, h5.ext h2 fun b hb => ⟨out_G hb, out_sub hb, fun _ => ⟨rfl, fun _ h => h⟩⟩⟩
theorem CallAt.rel0 (C : CallAt w g ob ρ w' g' ob') {v : Value} {x : AV} (h : ARel0 w' g' ob' v x) : ARel0 w' (g.out g' ρ ob.length) (back ob ρ ob') v (outC ob ρ x) := by
  cases x with
  | box j o => exact ⟨by rw [C.loc_out]; exact h.1, C.isb_out h.2⟩
  | iter j => exact ⟨by rw [C.loc_out]; exact h.1, C.isi_out h.2⟩
  | row j e =>
    obtain ⟨h0, et, sz, fz, e', xs, h1, h2, h3⟩ := h
    refine ⟨h0, et, sz, fz, outE ob ρ j + e', xs, C.back_out h1, by omega, fun he => C.row_out (h3 (by omega))⟩
  | rowk j e k =>
    obtain ⟨h0, et, sz, fz, e', xs, h1, h2, h3⟩ := h
    refine ⟨h0, et, sz, fz, outE ob ρ j + e', xs, C.back_out h1, by omega, fun he => ?_⟩
    obtain ⟨h4, h5, h6⟩ := h3 (by omega)
    exact ⟨h4, h5, C.row_out h6⟩
  | rptr j e i o =>
    obtain ⟨h0, et, sz, fz, e', xs, h1, h2, h3⟩ := h
    refine ⟨h0, et, sz, fz, outE ob ρ j + e', xs, C.back_out h1, by omega, fun he => ?_⟩
    obtain ⟨b, c, h4, h5, h6, h7⟩ := h3 (by omega)
    exact ⟨b, c, h4, h5, h6, C.row_out h7⟩
  | _ => exact h
theorem CallAt.relC (C : CallAt w g ob ρ w' g' ob') {vs : List Value} {cs : List AV} (h : ARelC w' g' ob' vs cs) : ARelC w' (g.out g' ρ ob.length) (back ob ρ ob') vs (cs.map (outC ob ρ)) := by
  refine ⟨by simp [h.1], fun j y u hy hu => ?_⟩
  rw [List.getElem?_map, Option.map_eq_some_iff] at hu
  obtain ⟨u', h1, rfl⟩ := hu
  exact ⟨C.rel0 (h.2 j y u' hy h1).1, (h.2 j y u' hy h1).2⟩
theorem CallAt.rel1 (C : CallAt w g ob ρ w' g' ob') {v : Value} {x : AV} (h : ARel1 w' g' ob' v x) : ARel1 w' (g.out g' ρ ob.length) (back ob ρ ob') v (outA1 ob ρ x) := by
  cases x with
  | agg cs => obtain ⟨vs, rfl, h⟩ := h; exact ⟨vs, rfl, C.relC h⟩
  | tup _ => exact (show False from h).elim
  | val a => exact C.rel0 (x := .val a) h
  | slc a b => exact C.rel0 (x := .slc a b) h
  | ref a => exact C.rel0 (x := .ref a) h
  | opt a => exact C.rel0 (x := .opt a) h
  | box a b => exact C.rel0 (x := .box a b) h
  | row a b => exact C.rel0 (x := .row a b) h
  | rowk a b c => exact C.rel0 (x := .rowk a b c) h
  | rptr a b c d => exact C.rel0 (x := .rptr a b c d) h
  | kb a => exact C.rel0 (x := .kb a) h
  | iter a => exact C.rel0 (x := .iter a) h
  | dead => trivial
theorem CallAt.rel (C : CallAt w g ob ρ w' g' ob') {v : Value} {x : AV} (h : ARel w' g' ob' v x) : ARel w' (g.out g' ρ ob.length) (back ob ρ ob') v (outA ob ρ x) := by
  cases x with
  | tup xs =>
    obtain ⟨vs, rfl, h1, h2⟩ := h
    refine ⟨vs, rfl, by simp [h1], fun j y u hy hu => ?_⟩
    rw [List.getElem?_map, Option.map_eq_some_iff] at hu
    obtain ⟨u', h3, rfl⟩ := hu
    exact C.rel1 (h2 j y u' hy h3)
  | agg cs => exact (C.rel1 (x := .agg cs) h).to
  | val a => exact (C.rel1 (x := .val a) h).to
  | slc a b => exact (C.rel1 (x := .slc a b) h).to
  | ref a => exact (C.rel1 (x := .ref a) h).to
  | opt a => exact (C.rel1 (x := .opt a) h).to
  | box a b => exact (C.rel1 (x := .box a b) h).to
  | row a b => exact (C.rel1 (x := .row a b) h).to
  | rowk a b c => exact (C.rel1 (x := .rowk a b c) h).to
  | rptr a b c d => exact (C.rel1 (x := .rptr a b c d) h).to
  | kb a => exact (C.rel1 (x := .kb a) h).to
  | iter a => exact (C.rel1 (x := .iter a) h).to
  | dead => trivial
theorem CallAt.mem (C : CallAt w g ob ρ w' g' ob') : Mem w' (g.out g' ρ ob.length) (back ob ρ ob') := by
  have E := C.ext
  refine ⟨fun id cs h => ?_, fun id cs h k u hk => ?_, fun id s pos h => ?_, fun b id h => ?_, fun b o hA => ?_, fun id et sz fz e xs h => ?_, fun b hs => ?_, fun b b' id h1 h2 hs hs' => ?_⟩
  · rcases C.back_cases h with ⟨j, o', h1, rfl, h2⟩ | ⟨hid, hp, h1⟩
    · cases o' <;> cases h2
      rename_i cs'
      obtain ⟨hG, cur, T, h3, h4⟩ := C.m'.box j cs' h1
      exact ⟨by rw [C.loc_out]; exact out_G hG, cur, T, by rw [C.loc_out]; exact h3, C.relC h4⟩
    · obtain ⟨hG, cur, T, h3, h4⟩ := C.m.box id cs h1
      obtain ⟨_, _, h5, h6⟩ := C.own_G hG hp
      have hl : (g.out g' ρ ob.length).loc id = g.loc id := E.loc id hid
      exact ⟨by rw [hl]; exact h5, cur, T, by rw [hl, h6]; exact h3, h4.ext E⟩
  · rcases C.back_cases h with ⟨j, o', h1, rfl, h2⟩ | ⟨hid, hp, h1⟩
    · cases o' <;> cases h2
      rw [C.loc_out]
      exact C.m'.fbox j _ h1 k u hk
    · obtain ⟨hA, y, h3, h4⟩ := C.m.fbox id cs h1 k u hk
      have hl : (g.out g' ρ ob.length).loc id = g.loc id := E.loc id hid
      rw [hl]
      exact ⟨(E.A _ _ hA).1, y, by rw [(E.A _ _ hA).2]; exact h3, h4.keep E.A⟩
  · rcases C.back_cases h with ⟨j, o', h1, rfl, h2⟩ | ⟨hid, hp, h1⟩
    · cases o' <;> cases h2
      obtain ⟨hG, h3⟩ := C.m'.iter j _ _ h1
      exact ⟨by rw [C.loc_out]; exact out_G hG, by rw [C.loc_out]; exact h3⟩
    · obtain ⟨hG, h3⟩ := C.m.iter id s pos h1
      obtain ⟨_, _, h5, h6⟩ := C.own_G hG hp
      have hl : (g.out g' ρ ob.length).loc id = g.loc id := E.loc id hid
      exact ⟨by rw [hl]; exact h5, by rw [hl, h6]; exact h3⟩
  · rw [C.back_len]
    rcases C.G_cases h with ⟨j, hj, rfl⟩ | ⟨_, h1, _⟩
    · exact ⟨(C.m'.own b j hj).1, C.outI_lt (C.m'.own b j hj).2⟩
    · have := C.m.own b id h1
      exact ⟨Nat.lt_of_lt_of_le this.1 C.st.size, by omega⟩
  · refine ⟨(C.m'.imm b o hA).1, fun id h hs => ?_⟩
    rcases C.G_cases h with ⟨j, hj, rfl⟩ | ⟨h0, h1, hp⟩
    · obtain ⟨et, sz, e, xs, h2, h3⟩ := (C.m'.imm b o hA).2 j hj ((out_sub hj).symm.trans hs)
      exact ⟨et, sz, outE ob ρ j + e, xs, C.back_out h2, h3⟩
    · obtain ⟨h4, _, _, _⟩ := C.own_G h1 hp
      rcases C.st.imm b o hA with h5 | ⟨k, h5⟩ | h5
      · obtain ⟨et, sz, e, xs, h2, h3⟩ := (C.m.imm b o h5).2 id h1 ((out_sub' h0 h1 hp).symm.trans hs)
        exact ⟨et, sz, e, xs, by rw [C.back_own (lt_of_some h2) hp]; exact h2, h3⟩
      · rw [h4] at h5; cases h5
      · have := (C.m.own b id h1).1; omega
  · rcases C.back_cases h with ⟨j, o', h1, rfl, h2⟩ | ⟨hid, hp, h1⟩
    · cases o' <;> cases h2
      exact C.m'.roww j _ _ _ _ _ h1
    · exact C.m.roww id _ _ _ _ _ h1
  · cases h1 : g'.G b with
    | some j =>
      obtain ⟨j', et, sz, fz, e, xs, h2, h3⟩ := C.m'.nsub b ((out_sub h1).symm.trans hs)
      exact ⟨_, _, _, _, _, _, out_G h2, C.back_out h3⟩
    | none =>
      cases h2 : g.G b with
      | none => simp only [Gh.out, h1, h2] at hs; cases hs
      | some id =>
        cases hp : posOf id ρ with
        | some k => simp only [Gh.out, h1, h2, hp] at hs; cases hs
        | none =>
          obtain ⟨id', et, sz, fz, e, xs, h3, h4⟩ := C.m.nsub b ((out_sub' h1 h2 hp).symm.trans hs)
          rw [h2] at h3
          obtain rfl : id = id' := by simpa using h3
          exact ⟨id, et, sz, fz, e, xs, (C.own_G h2 hp).2.2.1, by rw [C.back_own (lt_of_some h4) hp]; exact h4⟩
  · rcases C.G_cases h1 with ⟨j, hj, rfl⟩ | ⟨h0, h3, hp⟩
    · rcases C.G_cases h2 with ⟨j', hj', he⟩ | ⟨h0', h4, hp'⟩
      · obtain rfl := C.outI_inj he
        exact C.m'.uniq b b' j hj hj' ((out_sub hj).symm.trans hs) ((out_sub hj').symm.trans hs')
      · exact (C.outI_not hp' (C.m.own b' _ h4).2).elim
    · rcases C.G_cases h2 with ⟨j', hj', he⟩ | ⟨h0', h4, hp'⟩
      · subst he
        exact (C.outI_not hp (C.m.own b _ h3).2).elim
      · exact C.m.uniq b b' id h3 h4 ((out_sub' h0 h3 hp).symm.trans hs) ((out_sub' h0' h4 hp').symm.trans hs')
theorem CallAt.step (C : CallAt w g ob ρ w' g' ob') : Step w g ob w' (g.out g' ρ ob.length) (back ob ρ ob') := by
  have none_in : ∀ b, g.G b = none → (g.ren (ρ.map some)).G b = none := fun b h => by simp [Gh.ren, h]
  have some_in : ∀ b k, (g.ren (ρ.map some)).G b = some k → ∃ id, g.G b = some id := fun b k h => by
    obtain ⟨i, _, hG⟩ := ren_Gof h
    exact ⟨i, hG⟩
  refine ⟨C.st.os, C.st.tape, C.st.output, C.st.size, fun b hb hG => C.st.keep b hb (none_in b hG), fun b id h => ?_, fun b o hA => ?_, C.ext, ?_⟩
  · rcases C.G_cases h with ⟨j, hj, rfl⟩ | ⟨_, h1, _⟩
    · rcases C.st.own b j hj with ⟨k, hk⟩ | hk
      · exact .inl (some_in b k hk)
      · exact .inr hk
    · exact .inl ⟨id, h1⟩
  · rcases C.st.imm b o hA with h | ⟨k, h⟩ | h
    · exact .inl h
    · exact .inr (.inl (some_in b k h))
    · exact .inr (.inr h)
  · rw [C.back_len]; omega
end
end Go.Proofs.Ytblafdmmebiagaa
namespace Go.Proofs.Ytblafdmmebiagaa
open Go.RowKit Go.Lib
section
variable {P : Program} {ty : Tys} {w0 : World} {g0 : Gh} {o0 : List Ob} {N : Nat} {Q : Ex → St → Prop} {w w' : World} {g g' : Gh} {ob ob' : List Ob}
theorem ARel.to1' {v : Value} {x : AV} (h : ARel w g ob v x) (hl : ∀ xs, x ≠ .tup xs) : ARel1 w g ob v x := by cases x <;> first | exact h | exact absurd rfl (hl _)
theorem callee_run {o : Oper} {a : Act} {w : World} {f : Operand} {args : Array Operand} {tys : Array TypeId} {h : Nat} (ho : o.op = .call { callee := .value f, args := args, argTypes := tys }) (hf : a.eval f = .func (.func h) #[] #[])
    (he : ∀ vs w, (callFunc h vs).run P w = .ok (.enter h vs) w) : (execOp a.eval o).run P w = .ok (.enter h (args.map a.eval)) w := by
  simp only [execOp, ho, resolve, hf, Deferred.ofValue, Sem.run_bind, Sem.run_pure, Result.andThen_ok, invoke]
  rw [he]
  simp
theorem op_call {K : St → Tree} {o : Oper} {s : St} {a : Act} {w : World} {R : Exit → Act → World → Prop} (hs : Sim w0 g0 o0 N s a w) (hd : ∀ t, o.dst = some t → t < N)
    {f : Operand} {args : Array Operand} {tys : Array TypeId} {h : Nat} (ho : o.op = .call { callee := .value f, args := args, argTypes := tys }) (hf : ev s f = .val (.func (.func h) #[] #[]))
    {vs : List AV} {ob : List Ob} (he : eachM (frz std true 9) s.ob (args.toList.map (ev s)) = some (vs, ob)) {ρ : List Nat} (hon : onceR (ρ.map some) = true) (hth : there ob ρ = true)
    (hq : tys.toList.any (ptrT ty) = true ∨ ρ.isEmpty = true) {res : AV} {ob' : List Ob} (hlen : ρ.length ≤ ob'.length) (hc : BCall P h (vs.map (inA ob ρ)) (inObs ob ρ) res ob')
    (hok : (K (St.put ⟨s.tm, back ob ρ ob'⟩ o.dst (outA ob ρ res))).ok P w0 g0 o0 N Q) : o.wp P a w (Good ty P w0 g0 o0 N Q K o.op w) R := by
  obtain ⟨g, M, hS, h0⟩ := hs.rel
  have hfr := ev_rel hS f
  rw [hf] at hfr
  have hL : ARelL w g s.ob (args.toList.map a.eval) (args.toList.map (ev s)) := by
    refine ⟨by simp, fun j v x hv hx => ?_⟩
    rw [List.getElem?_map, Option.map_eq_some_iff] at hv hx
    obtain ⟨q, hq, rfl⟩ := hv
    obtain ⟨q', hq', rfl⟩ := hx
    rw [hq] at hq'; cases hq'
    exact (ev_rel hS q).to1 (each_live _ _ _ _ he _ (List.mem_map.2 ⟨q, List.mem_of_getElem? hq, rfl⟩))
  obtain ⟨g1, M1, E1, L1, G1⟩ := frzL _ _ g s.ob vs ob M hL he
  have hrun := callee_run (P := P) (w := w) ho hfr.valEq hc.1
  unfold Oper.wp
  rw [hrun]
  show Calls P h (args.map a.eval) w _
  have hargs : args.map a.eval = (args.toList.map a.eval).toArray := by apply Array.ext'; simp
  rw [hargs]
  refine (hc.2 w (g1.ren (ρ.map some)) _ (mem_in M1 hon hth) ⟨by simp [L1.1], fun j v x hv hx => ?_⟩).mono ?_
  · rw [List.getElem?_map, Option.map_eq_some_iff] at hx
    obtain ⟨x', hx', rfl⟩ := hx
    have h1 := L1.2 j v x' hv hx'
    have h2 := inA_rel hon hth h1.to
    cases x' with
    | agg cs => exact h2
    | tup _ => exact (show False from h1).elim
    | box i o => exact h2.to1' (by simp only [inA, inC]; split <;> simp)
    | row i e => exact h2.to1' (by simp only [inA, inC]; split <;> (try split) <;> (try split) <;> simp)
    | _ => exact h2
  rintro e w' ⟨v, g2, rfl, M2, R2, S2⟩
  have C : CallAt w g1 ob ρ w' g2 ob' := ⟨hon, hth, hlen, M1, M2, S2⟩
  have hS1 : Slots w g1 ⟨s.tm, ob⟩ a := fun t => (hS t).ext E1
  have hs1 : Sim w0 g0 o0 N ⟨s.tm, ob⟩ a w := ⟨hs.defers, hs.size, g1, M1, hS1, h0.trans (Step.ghost E1 G1)⟩
  refine ⟨fun hqu => ?_, _, sim_put (s := ⟨s.tm, ob⟩) hs1 hS1 (h0.trans (Step.ghost E1 G1)) C.mem C.step hd (C.rel R2), hok⟩
  rcases hq with hq | hq
  · simp [ho, quietW, hq] at hqu
  · have hr : ρ = [] := by simpa using hq
    subst hr
    exact ⟨S2.os, S2.tape, S2.output, S2.size, fun b hb => S2.keep b hb (by
      cases hx : (g1.ren (([] : List Nat).map some)).G b with
      | none => rfl
      | some j =>
        obtain ⟨i, hi, _⟩ := ren_Gof hx
        simp at hi)⟩
theorem op_sound (hT : TyOk P ty) {cs : Nat → List AV → List Ob → Option (AV × List Ob)} {K : St → Tree} {o : Oper} {s : St} {a : Act} {w : World} {R : Exit → Act → World → Prop} (hs : Sim w0 g0 o0 N s a w) (hd : ∀ t, o.dst = some t → t < N)
    (hok : (aop std ty cs K o s).ok P w0 g0 o0 N Q) : o.wp P a w (Good ty P w0 g0 o0 N Q K o.op w) R := by
  have still : ∀ {s : St}, Sim w0 g0 o0 N s a w → ∀ {q : Option Prop} {v : AV}, aval std ty s o.op = some (q, v) → (∀ r, q = some r → r) → (K (St.put s o.dst v)).ok P w0 g0 o0 N Q → o.wp P a w (Good ty P w0 g0 o0 N Q K o.op w) R :=
    fun hs _ _ h hq hk => op_still hs hd (fun g M hS => aval_sound hT hS M h hq) hk
  -- what stands behind 'aval'
  have rest0 : ∀ {s : St}, Sim w0 g0 o0 N s a w → (aopRest std ty K o s o.op).ok P w0 g0 o0 N Q → o.wp P a w (Good ty P w0 g0 o0 N Q K o.op w) R := by
    intro s hs h
    unfold aopRest at h
    split at h
    · rename_i v hv
      exact still hs hv (fun r h => by cases h) h
    · rename_i q v hv
      exact still hs hv (fun r hr => by cases hr; exact h.1) h.2
    · split at h
      · rename_i src dst x ho
        split at h
        · rename_i b hb
          split at h
          · rename_i hk
            exact op_bytes hT hs hd ho hb hk.1 hk.2.1 hk.2.2 h.1 h.2
          · exact h.elim
        · rename_i id ep hx
          split at h
          · rename_i et sz e xs hob
            split at h
            · rename_i hk
              obtain ⟨rfl, rfl, rfl, hk1, hk2⟩ := hk
              exact op_mark hT hs hd ho hx hob hk1 hk2 h.1 h.2
            · exact h.elim
          · exact h.elim
        · exact h.elim
      · exact h.elim
  have rest : (aopRest std ty K o s o.op).ok P w0 g0 o0 N Q → o.wp P a w (Good ty P w0 g0 o0 N Q K o.op w) R := rest0 hs
  obtain ⟨op, ho⟩ : ∃ op, o.op = op := ⟨_, rfl⟩
  cases op with
  | binOp op T x y T' =>
    rcases nilq_ok (w := w) (a := a) hT ho hok with h | ⟨z, h1, h2⟩
    · exact rest h
    · exact op_still hs hd (fun g M hS => h2 g _ hS) h1
  | assign x =>
    simp only [aop, ho] at hok
    exact rest0 (commit_sim x hs) (by rw [ho]; exact hok)
  | slice T x lo hi m =>
    cases lo with
    | none => exact rest (by rw [ho]; simpa only [aop, ho] using hok)
    | some l =>
      simp only [aop, ho] at hok
      exact rest0 (thaw_sim x hs) (by rw [ho]; exact hok)
  | alloc T =>
    simp only [aop, ho] at hok
    split at hok
    · rename_i hk; exact op_alloc hT hs hd ho hk hok
    · exact hok.elim
  | box T x =>
    simp only [aop, ho] at hok
    split at hok
    · rename_i hk; exact op_box hs hd ho hk hok
    · exact hok.elim
  | store T x y =>
    simp only [aop, ho] at hok
    have hs := commit_sim y hs
    generalize commit std s y = s1 at hok hs
    unfold aopStore at hok
    split at hok
    · rename_i id off hx
      split at hok
      · rename_i c hb
        split at hok
        · rename_i hk
          exact op_store hT hs hd ho hx hb hk.1 hk.2.1 hk.2.2.1 hk.2.2.2 hok
        · exact hok.elim
      · exact hok.elim
    · exact hok.elim
  | buildSlice T len parts =>
    simp only [aop, ho] at hok
    split at hok
    · rename_i xs ob he
      split at hok
      · rename_i hk
        exact op_buildSlice hT hs hd ho he hk.1 hk.2.1 hk.2.2.1 hk.2.2.2.1 hk.2.2.2.2.1 hk.2.2.2.2.2.1 hk.2.2.2.2.2.2 hok
      · exact hok.elim
    · exact hok.elim
  | range T x =>
    simp only [aop, ho] at hok
    split at hok
    · rename_i b hb
      split at hok
      · rename_i hk; exact op_range hT hs hd ho hb hk hok
      · exact hok.elim
    · exact hok.elim
  | next it b =>
    cases b with
    | false => simp [aop, ho, aopRest, aval, Tree.ok] at hok
    | true =>
      simp only [aop, ho] at hok
      split at hok
      · rename_i id hi
        split at hok
        · rename_i b pos hob
          exact op_next hs hd ho hi hob hok.1 hok.2
        · exact hok.elim
      · exact hok.elim
  | call c =>
    obtain ⟨callee, args, tys⟩ := c
    cases callee with
    | builtin b =>
      cases b with
      | append =>
        simp only [aop, ho] at hok
        split at hok
        · rename_i x y T U ha ht
          split at hok
          · rename_i sz news hsrc
            split at hok
            · rename_i hel
              obtain ⟨hsubk, hel⟩ := hel
              have hpos : 0 < sz := by obtain ⟨e, _, _, _, _, h⟩ := el_facts hT hel; exact h
              split at hok
              · rename_i hx
                have hlen : s.ob.length = s.ob.length := rfl
                have hset : (s.ob ++ [Ob.row (tyLook T ty).elem sz false 0 []]).set s.ob.length (.row (tyLook T ty).elem sz false (0 + 1) (std.app [] news)) = s.ob ++ [.row (tyLook T ty).elem sz false 1 (std.app [] news)] := by
                  rw [List.set_append_right _ _ (Nat.le_refl _), Nat.sub_self]; rfl
                refine op_append_row hT hs hd ho ha ht (ob := s.ob ++ [.row (tyLook T ty).elem sz false 0 []]) (fun g M => ⟨M.addRow hpos, Ext.addRow _, Step.addRow _⟩) (id := s.ob.length) get_new (xs' := []) (fun g M hS => ?_) (fun h => by cases h) hel rfl hsrc hsubk hok.1 ?_
                · have hxr := ev_rel hS x
                  rw [hx] at hxr
                  rw [hxr.valEq]
                  refine ⟨[], World.ownsRow_nil _ _ _ _, ?_, Alike.nil, ?_, ?_, ?_⟩
                  · intro b h; cases h
                  · intro x h; cases h
                  · intro b h; cases h
                  · intro _ j y h; simp at h
                · rw [hset]; exact hok.2
              · rename_i id ep hx
                split at hok
                · rename_i et sz' fz e xs hob
                  split at hok
                  · rename_i hk
                    obtain ⟨rfl, rfl, rfl⟩ := hk
                    refine op_append_row hT hs hd ho ha ht (ob := s.ob) (fun g M => ⟨M, Ext.refl, Step.refl⟩) hob (fun g M hS => ?_) (fun _ => rfl) hel rfl hsrc hsubk hok.1 hok.2
                    have hxr := ev_rel hS x
                    rw [hx] at hxr
                    obtain ⟨_, et, sz, fz, e, xs, h1, h2, h3⟩ := hxr
                    rw [hob] at h1
                    cases h1
                    exact h3 rfl
                  · exact hok.elim
                · exact hok.elim
              · rename_i id ep k hx
                split at hok
                · rename_i et sz' e xs hob
                  split at hok
                  · rename_i hk
                    obtain ⟨rfl, rfl, rfl⟩ := hk
                    refine op_append_row hT hs hd ho ha ht (ob := s.ob) (fun g M => ⟨M, Ext.refl, Step.refl⟩) hob (xs' := std.cut xs 0 k) (fun g M hS => ?_) (fun h => by cases h) hel rfl hsrc hsubk hok.1 hok.2
                    have hxr := ev_rel hS x
                    rw [hx] at hxr
                    obtain ⟨_, et, sz, fz, e, xs, h1, h2, h3⟩ := hxr
                    rw [hob] at h1
                    cases h1
                    have e : std.cut xs 0 k = xs.take k.toNat := by simp [std]
                    rw [e]
                    exact (h3 rfl).2.2
                  · exact hok.elim
                · exact hok.elim
              · exact hok.elim
            · exact hok.elim
          · exact hok.elim
        · exact hok.elim
      | _ => exact rest (by rw [ho]; simpa only [aop, ho] using hok)
    | invoke _ _ => exact rest (by rw [ho]; simpa only [aop, ho] using hok)
    | value f =>
      simp only [aop, ho] at hok
      split at hok
      · rename_i h ca cb hf
        split at hok
        · rename_i hab
          obtain rfl : ca = #[] := Array.eq_empty_of_size_eq_zero hab.1
          obtain rfl : cb = #[] := Array.eq_empty_of_size_eq_zero hab.2
          split at hok
          · rename_i vs ob he
            split at hok
            · rename_i hk
              split at hok
              · rename_i res ob' hcs
                split at hok
                · rename_i hlen
                  exact op_call hs hd ho hf he hk.1 hk.2.1 hk.2.2 hlen hok.1 hok.2
                · exact hok.elim
              · exact hok.elim
            · exact hok.elim
          · exact hok.elim
        · exact hok.elim
      · exact hok.elim
  | _ => exact rest (by rw [ho]; simpa only [aop, ho] using hok)
end
end Go.Proofs.Ytblafdmmebiagaa
namespace Go.Proofs.Ytblafdmmebiagaa
open Go.RowKit Go.Lib
section
variable {P : Program} {ops : Array Oper} {Q : Exit → Act → World → Prop} {md : Region.Mode} {late : Nat → Bool}
def wpR (P : Program) (md : Region.Mode) (ops : Array Oper) (late : Nat → Bool) (Q : Exit → Act → World → Prop) : Nat → Array Bool → Act → World → Prop
  | 0, listed, a, w => Region.ready md ops listed = [] ∧ Q .normal a w
  | n + 1, listed, a, w => (Region.ready md ops listed = [] → Q .normal a w) ∧
      ∀ i ∈ Region.ready md ops listed, wpOp P ops Q i (fun a' w' => (late i = false → LeB w w') ∧ wpR P md ops late Q n (listed.setIfInBounds i true) a' w') a w
theorem wpAny_of_R : ∀ (n : Nat) (listed : Array Bool) (a : Act) (w : World), wpR P md ops late Q n listed a w → wpAny P md ops Q n listed a w
  | 0, _, _, _, h => h
  | n + 1, _, _, _, h => ⟨h.1, fun i hi => wpOp_mono (fun a' w' h' => wpAny_of_R n _ a' w' h'.2) (h.2 i hi)⟩
def Closed (md : Region.Mode) (ops : Array Oper) (listed : Array Bool) : Prop :=
  ∀ (j : Nat) oj, ops[j]? = some oj → listed.getD j true = true → ∀ e ∈ oj.after, Region.binds md e = true → listed.getD e.on true = true
def anc (md : Region.Mode) (ops : Array Oper) (i : Nat) : Nat → Nat → Bool
  | 0, _ => false
  | n + 1, j => match ops[j]? with
    | some oj => oj.after.any fun e => Region.binds md e && (e.on == i || anc md ops i n e.on)
    | none => false
theorem getD_mono {listed : Array Bool} {k : Nat} (h : listed.getD k false = true) : listed.getD k true = true := by
  rcases Nat.lt_or_ge k listed.size with h' | h'
  · simp [h'] at h ⊢; exact h
  · simp [Nat.not_lt.2 h'] at h ⊢
theorem Closed.set {listed : Array Bool} (h : Closed md ops listed) {j : Nat} (hr : j ∈ Region.ready md ops listed) : Closed md ops (listed.setIfInBounds j true) := by
  have up : ∀ k, listed.getD k true = true → (listed.setIfInBounds j true).getD k true = true := fun k hk => by
    by_cases e : j = k
    · subst e
      rcases Nat.lt_or_ge j listed.size with h' | h'
      · simp [h']
      · simp [Nat.not_lt.2 h']
    · rw [getD_set_ne true e]; exact hk
  intro k ok hk hl e he hb
  by_cases hjk : j = k
  · subst hjk
    obtain ⟨_, o, ho, hall⟩ := mem_ready.1 hr
    rw [hk] at ho; cases ho
    exact up _ (getD_mono (hall e he hb))
  · rw [getD_set_ne true hjk] at hl
    exact up _ (h k ok hk hl e he hb)
theorem anc_not {listed : Array Bool} (h : Closed md ops listed) {i : Nat} (hi : listed.getD i true = false) : ∀ (n j : Nat), anc md ops i n j = true → ∀ oj, ops[j]? = some oj →
    ¬ (∀ e ∈ oj.after, Region.binds md e = true → listed.getD e.on true = true)
  | 0, _, h0, _, _, _ => by cases h0
  | n + 1, j, h0, oj, hj, hall => by
    simp only [anc, hj] at h0
    obtain ⟨e, he, hb⟩ := Array.any_eq_true'.1 h0
    simp only [Bool.and_eq_true, Bool.or_eq_true, beq_iff_eq] at hb
    obtain ⟨hb, h1 | h1⟩ := hb
    · have := hall e he hb
      rw [h1, hi] at this; cases this
    · have hl := hall e he hb
      cases hk : ops[e.on]? with
      | none =>
        cases n <;> simp [anc, hk] at h1
      | some ok => exact anc_not h hi n e.on h1 ok hk (h e.on ok hk hl)
theorem wpR_first {i : Nat} {oi : Oper} {v : Value} {rd : Bool} (hi : ops[i]? = some oi)
    (hsel : ∀ (j : Nat) (o : Oper) cs b, ops[j]? = some o → o.op ≠ .select cs b)
    (hQ : ∀ c a w, Q (.panic c) (a.put oi.dst v) w → Q (.panic c) a w) (hli : late i = false)
    (hlate : rd = true → ∀ j oj, ops[j]? = some oj → late j = true → anc md ops i ops.size j = true) :
    ∀ (n : Nat) (listed : Array Bool) (a : Act) (w : World), Closed md ops listed →
      (∀ j oj, ops[j]? = some oj → j ≠ i → listed.getD j true = false → (∀ e ∈ oj.after, Region.binds md e = true → e.on ≠ i) → oi.apart ops oj = true) →
      i ∈ Region.ready md ops listed → YieldsIf P ops (fun W => rd = true → LeB w W) oi v a →
      wpR P md ops late Q n (listed.setIfInBounds i true) (a.put oi.dst v) w → wpR P md ops late Q (n + 1) listed a w := by
  intro n
  induction n with
  | zero =>
    intro listed a w hC _ hr hy H
    refine ⟨fun h => (by rw [h] at hr; cases hr), fun j hj => ?_⟩
    by_cases hji : j = i
    · subst hji; exact hy.wpOp hi (fun _ => LeB.refl w) ⟨fun _ => LeB.refl w, H⟩
    · have := ready_mono hj hji
      rw [H.1] at this
      cases this
  | succ n ih =>
    intro listed a w hC hfree hr hy H
    refine ⟨fun h => (by rw [h] at hr; cases hr), fun j hj => ?_⟩
    by_cases hji : j = i
    · subst hji; exact hy.wpOp hi (fun _ => LeB.refl w) ⟨fun _ => LeB.refl w, H⟩
    · have h1 := H.2 j (ready_mono hj hji)
      obtain ⟨hjun, oj, hoj, hall⟩ := mem_ready.1 hj
      have hun := (mem_ready.1 hr).1
      have hnot : ∀ e ∈ oj.after, Region.binds md e = true → e.on ≠ i := fun e he hb heq => by
        have h1 := hall e he hb
        rw [heq] at h1
        have := getD_mono h1
        rw [hun] at this; cases this
      have h2 := wpOp_putIf (S := fun W => rd = true → LeB w W) hoj (hfree j oj hoj hji hjun hnot) (fun cs b => hsel i oi cs b hi) (fun cs b => hsel j oj cs b hoj) hQ hy h1
      have hfree' : ∀ k ok, ops[k]? = some ok → k ≠ i → (listed.setIfInBounds j true).getD k true = false →
          (∀ e ∈ ok.after, Region.binds md e = true → e.on ≠ i) → oi.apart ops ok = true := fun k ok hk hki hun hno => by
        refine hfree k ok hk hki ?_ hno
        by_cases hjk : j = k
        · subst hjk; exact hjun
        · rw [getD_set_ne true hjk] at hun; exact hun
      refine wpOp_mono (fun a' w' h3 => ?_) h2
      obtain ⟨h3, h4, h5⟩ := h3
      -- what is read stays
      have hle : rd = true → LeB w w' := fun hri => by
        refine h4 ?_
        cases hlj : late j with
        | false => rfl
        | true => exact (anc_not hC hun _ _ (hlate hri j oj hoj hlj) oj hoj (fun e he hb => getD_mono (hall e he hb))).elim
      refine ⟨h4, ih (listed.setIfInBounds j true) a' w' (hC.set hj) hfree' (ready_mono hr (Ne.symm hji)) (YieldsIf.weaken h3 fun V hV hri => LeB.trans _ _ _ (hle hri) (hV hri)) ?_⟩
      rw [Array.setIfInBounds_comm _ _ hji]
      exact h5
end
def stillO (ty : Tys) : Op → Bool
  | .alloc _ | .box _ _ | .store _ _ _ | .buildSlice _ _ _ | .range _ _ | .next _ _ => false
  | .call { callee := .builtin .append, .. } | .call { callee := .value _, .. } => false
  | .convert _ dst _ => !(tyLook dst ty).sl
  | _ => true
def lateO (ty : Tys) (ops : Array Oper) (j : Nat) : Bool := match ops[j]? with
  | some o => !quietW ty o.op
  | none => false
def OT.heads : OT → List Nat
  | .nil => []
  | .cons i _ => [i]
  | .fork a b => a.heads ++ b.heads
def drawOk (md : Region.Mode) (ty : Tys) (ops : Array Oper) : OT → Nat → Array Bool → Bool → Bool
  | .nil, n, listed, among => n == 0 && !among && (Region.ready md ops listed).isEmpty
  | .cons i rest, n, listed, among => n != 0 && (match ops[i]? with
      | some o => (if among then (Region.ready md ops listed).contains i else Region.ready md ops listed == [i] || (stillO ty o.op && (Region.ready md ops listed).contains i && Region.free md ops listed i &&
          (!readsM o.op || (List.range ops.size).all fun j => !lateO ty ops j || anc md ops i ops.size j)))
      | none => false) && drawOk md ty ops rest (n - 1) (listed.setIfInBounds i true) false
  | .fork a b, n, listed, among => (among || (!(Region.ready md ops listed).isEmpty && (Region.ready md ops listed).all fun i => (OT.fork a b).heads.contains i)) &&
      drawOk md ty ops a n listed true && drawOk md ty ops b n listed true
def ordOk (md : Region.Mode) (ty : Tys) (ord : Nat → OT) : Code → Bool
  | .region id ops draw => if draw then Region.noSelect ops && drawOk md ty ops ((ord id).or ops.size) ops.size (Array.replicate ops.size false) false else true
  | .seq a b => ordOk md ty ord a && ordOk md ty ord b
  | .cond _ a b => ordOk md ty ord a && ordOk md ty ord b
  | .block _ c => ordOk md ty ord c
  | .loop c => ordOk md ty ord c
  | _ => true
def dstOk (N : Nat) : Code → Bool
  | .region _ ops _ => ops.all fun o => match o.dst with | some d => decide (d < N) | none => true
  | .seq a b => dstOk N a && dstOk N b
  | .cond _ a b => dstOk N a && dstOk N b
  | .block _ c => dstOk N c
  | .loop c => dstOk N c
  | _ => true
section
variable {P : Program} {ty : Tys} {w0 : World} {g0 : Gh} {o0 : List Ob} {N : Nat} {Q : Ex → St → Prop}
theorem still_sound (hT : TyOk P ty) {cs : Nat → List AV → List Ob → Option (AV × List Ob)} {K : St → Tree} {o : Oper} {s : St} {a : Act} {w : World} (hst : stillO ty o.op = true)
    (hok : (aop std ty cs K o s).ok P w0 g0 o0 N Q) : ∃ s1 x, (∀ a w, Sim w0 g0 o0 N s a w → Sim w0 g0 o0 N s1 a w) ∧ (K (St.put s1 o.dst x)).ok P w0 g0 o0 N Q ∧ ∀ g, Mem w g s1.ob → Slots w g s1 a → Yld P w g s1 a o (readsM o.op) x := by
  have rest0 : ∀ s1, (∀ a w, Sim w0 g0 o0 N s a w → Sim w0 g0 o0 N s1 a w) → (aopRest std ty K o s1 o.op).ok P w0 g0 o0 N Q → ∃ s1 x, (∀ a w, Sim w0 g0 o0 N s a w → Sim w0 g0 o0 N s1 a w) ∧ (K (St.put s1 o.dst x)).ok P w0 g0 o0 N Q ∧ ∀ g, Mem w g s1.ob → Slots w g s1 a → Yld P w g s1 a o (readsM o.op) x := by
    intro s1 h1 h
    unfold aopRest at h
    split at h
    · rename_i v hv
      exact ⟨s1, v, h1, h, fun g M hS => aval_sound hT hS M hv (fun r h => by cases h)⟩
    · rename_i q v hv
      exact ⟨s1, v, h1, h.2, fun g M hS => aval_sound hT hS M hv (fun r hr => by cases hr; exact h.1)⟩
    · split at h
      · rename_i src dst x ho
        rw [ho] at hst
        simp only [stillO, Bool.not_eq_true'] at hst
        split at h
        · split at h
          · rename_i hk
            rw [hk.2.1] at hst; cases hst
          · exact h.elim
        · split at h
          · split at h
            · rename_i hk
              rw [← hk.2.1, hk.2.2.2.1] at hst; cases hst
            · exact h.elim
          · exact h.elim
        · exact h.elim
      · exact h.elim
  have rest := rest0 s (fun _ _ h => h)
  obtain ⟨op, ho⟩ : ∃ op, o.op = op := ⟨_, rfl⟩
  cases op with
  | assign x =>
    simp only [aop, ho] at hok
    exact rest0 _ (fun a w h => commit_sim x h) (by rw [ho]; exact hok)
  | slice T x lo hi m =>
    cases lo with
    | none => exact rest (by rw [ho]; simpa only [aop, ho] using hok)
    | some l =>
      simp only [aop, ho] at hok
      exact rest0 _ (fun a w h => thaw_sim x h) (by rw [ho]; exact hok)
  | binOp op T x y T' =>
    rcases nilq_ok (w := w) (a := a) hT ho hok with h | ⟨z, h1, h2⟩
    · exact rest h
    · exact ⟨s, z, fun _ _ h => h, h1, fun g _ hS => h2 g _ hS⟩
  | alloc T => simp [ho, stillO] at hst
  | box T x => simp [ho, stillO] at hst
  | store T x y => simp [ho, stillO] at hst
  | buildSlice T len parts => simp [ho, stillO] at hst
  | range T x => simp [ho, stillO] at hst
  | next it b => simp [ho, stillO] at hst
  | call c =>
    obtain ⟨callee, args, tys⟩ := c
    cases callee with
    | builtin b =>
      cases b with
      | append => simp [ho, stillO] at hst
      | _ => exact rest (by rw [ho]; simpa only [aop, ho] using hok)
    | invoke _ _ => exact rest (by rw [ho]; simpa only [aop, ho] using hok)
    | value f => simp [ho, stillO] at hst
  | _ => exact rest (by rw [ho]; simpa only [aop, ho] using hok)
end
end Go.Proofs.Ytblafdmmebiagaa
namespace Go.Proofs.Ytblafdmmebiagaa
open Go.RowKit Go.Lib
section
variable {P : Program} {ty : Tys} {w0 : World} {g0 : Gh} {o0 : List Ob} {N : Nat} {Q : Ex → St → Prop} {w : World} {a : Act} {s : St}
theorem sim_known (hs : Sim w0 g0 o0 N s a w) {d : Nat} {b : Bool} (hv : lk d s.tm = .val (.bool b)) (c : Bool) (hc : b = c) : Sim w0 g0 o0 N (s.put (some d) (.kb c)) a w := by
  subst hc
  obtain ⟨g, M, hS, h0⟩ := hs.rel
  refine ⟨hs.defers, hs.size, g, M, fun t => ?_, h0⟩
  show ARel w g s.ob _ (if t = d then .kb b else lk t s.tm)
  by_cases e : t = d
  · subst e
    rw [if_pos rfl]
    have h := hS t
    rw [hv] at h
    exact h.valEq
  · rw [if_neg e]; exact hS t
theorem sim_undef (hs : Sim w0 g0 o0 N s a w) {d : Option Nat} (hd : ∀ t, d = some t → t < N) : Sim w0 g0 o0 N (s.put d (.tup [])) (a.put d undef) w := by
  obtain ⟨g, M, hS, h0⟩ := hs.rel
  exact sim_put (s := s) (ob' := s.ob) hs hS h0 M Step.refl hd (v := undef) (x := .tup []) ⟨#[], rfl, rfl, fun j y u h => by simp at h⟩
theorem sim_bool (hs : Sim w0 g0 o0 N s a w) {d : Nat} {b : Bool} (hv : lk d s.tm = .kb b) : a.tmps.getD d undef = .bool b := by
  obtain ⟨g, M, hS, h0⟩ := hs.rel
  have h := hS d
  rw [hv] at h
  exact h
theorem want_at {ops : Array Oper} (hs : Sim w0 g0 o0 N s a w) {o : Oper} {j d : Nat} {b want : Bool} (hg : o.guard = some (j, want)) (hd : (ops[j]?).bind (·.dst) = some d) (hv : lk d s.tm = .kb b) :
    Region.wanted o (yielded ops a.tmps) = (b == want) := by
  have h := sim_bool hs hv
  have h1 : a.tmps[d]? = some (.bool b) := by
    rw [Array.getD_eq_getD_getElem?] at h
    cases hx : a.tmps[d]? with
    | none => rw [hx] at h; cases h
    | some x => rw [hx] at h; exact congrArg some h
  simp only [Region.wanted, hg, yielded, hd, Option.bind_some, h1]
  cases b <;> cases want <;> rfl
theorem guard_sound {cs : Nat → List AV → List Ob → Option (AV × List Ob)} {ops : Array Oper} {K : St → Tree} {i : Nat} {rest : OT} {o : Oper} (ho : ops[i]? = some o) (hs : Sim w0 g0 o0 N s a w)
    (hok : (aops std ty cs ops.toList K (.cons i rest) s).ok P w0 g0 o0 N Q) :
    (Region.wanted o (yielded ops a.tmps) = true ∧ ∃ s', Sim w0 g0 o0 N s' a w ∧ (aop std ty cs (aops std ty cs ops.toList K rest) o s').ok P w0 g0 o0 N Q) ∨
    (Region.wanted o (yielded ops a.tmps) = false ∧ ∃ s', Sim w0 g0 o0 N s' a w ∧ (aops std ty cs ops.toList K rest (s'.put o.dst (.tup []))).ok P w0 g0 o0 N Q) := by
  simp only [aops, Array.getElem?_toList, ho] at hok
  split at hok
  · rename_i hg
    exact .inl ⟨by simp [Region.wanted, hg], s, hs, hok⟩
  · rename_i j want hg
    split at hok
    · exact hok.elim
    · rename_i d hd
      split at hok
      · rename_i b hv
        have hw := want_at (ops := ops) hs hg hd hv
        split at hok
        · exact .inl ⟨hw, s, hs, hok⟩
        · exact .inl ⟨hw, s, hs, hok⟩
        · rename_i hne1 hne2
          refine .inr ⟨?_, s, hs, hok⟩
          rw [hw]
          cases b <;> cases want
          · exact (hne2 rfl rfl).elim
          · rfl
          · rfl
          · exact (hne1 rfl rfl).elim
      · rename_i b hv
        have e : ∀ c : Bool, lk d (s.put (some d) (.kb c)).tm = .kb c := fun c => if_pos rfl
        split at hok
        · obtain ⟨h1, h2⟩ := hok
          cases b with
          | true =>
            have hs' := sim_known hs hv true rfl
            exact .inl ⟨want_at (ops := ops) hs' hg hd (e true), _, hs', h1 rfl⟩
          | false =>
            have hs' := sim_known hs hv false rfl
            exact .inr ⟨want_at (ops := ops) hs' hg hd (e false), _, hs', h2 rfl⟩
        · obtain ⟨h1, h2⟩ := hok
          cases b with
          | true =>
            have hs' := sim_known hs hv true rfl
            exact .inr ⟨want_at (ops := ops) hs' hg hd (e true), _, hs', h1 rfl⟩
          | false =>
            have hs' := sim_known hs hv false rfl
            exact .inl ⟨want_at (ops := ops) hs' hg hd (e false), _, hs', h2 rfl⟩
      · rename_i hv
        refine .inr ⟨?_, s, hs, hok⟩
        obtain ⟨g, M, hS, h0⟩ := hs.rel
        have h1 := hS d
        rw [hv] at h1
        obtain ⟨vs, h2, _⟩ := h1
        rw [Array.getD_eq_getD_getElem?] at h2
        simp only [Region.wanted, hg, yielded, hd, Option.bind_some]
        cases hx : a.tmps[d]? with
        | none => cases want <;> rfl
        | some x =>
          rw [hx] at h2
          obtain rfl : x = .tuple vs := h2
          cases want <;> rfl
      · exact hok.elim
theorem dst_at {ops : Array Oper} (hd : (ops.all fun o => match o.dst with | some d => decide (d < N) | none => true) = true) {i : Nat} {o : Oper} (ho : ops[i]? = some o) : ∀ t, o.dst = some t → t < N := fun t ht => by
  have := Array.all_eq_true_iff_forall_mem.1 hd o (Array.mem_of_getElem? ho)
  simpa [ht] using this
theorem aops_sound (hT : TyOk P ty) {cs : Nat → List AV → List Ob → Option (AV × List Ob)} {ops : Array Oper} {K : St → Tree} {R : Exit → Act → World → Prop}
    (hd : (ops.all fun o => match o.dst with | some d => decide (d < N) | none => true) = true) (hK : ∀ s a w, Sim w0 g0 o0 N s a w → (K s).ok P w0 g0 o0 N Q → R .normal a w) :
    ∀ (l : List Nat) (s : St) (a : Act) (w : World), Sim w0 g0 o0 N s a w → (aops std ty cs ops.toList K (OT.of l) s).ok P w0 g0 o0 N Q → wpOps P ops R l a w
  | [], s, a, w, hs, hok => hK s a w hs hok
  | i :: rest, s, a, w, hs, hok => by
    unfold wpOps
    cases ho : ops[i]? with
    | none => simp [OT.of, aops, Array.getElem?_toList, ho, Tree.ok] at hok
    | some o =>
      rcases guard_sound (rest := OT.of rest) ho hs hok with ⟨hw, s', hs', h⟩ | ⟨hw, s', hs', h⟩
      · simp only [hw, if_true]
        exact .inl (Oper.wp_mono (fun a' w' hg => by
          obtain ⟨_, s2, hs2, h2⟩ := hg
          exact aops_sound hT hd hK rest s2 a' w' hs2 h2) (op_sound hT hs' (dst_at hd ho) h))
      · simp only [hw, Bool.false_eq_true, if_false]
        exact aops_sound hT hd hK rest _ _ w (sim_undef hs' (dst_at hd ho)) h
theorem aops_draw (hT : TyOk P ty) {cs : Nat → List AV → List Ob → Option (AV × List Ob)} {ops : Array Oper} {K : St → Tree} {R : Exit → Act → World → Prop} {md : Region.Mode}
    (hd : (ops.all fun o => match o.dst with | some d => decide (d < N) | none => true) = true) (hn : Region.noSelect ops = true) (hQ : ∀ c a (d : Tmp) v w, R (.panic c) (a.put (some d) v) w → R (.panic c) a w)
    (hK : ∀ s a w, Sim w0 g0 o0 N s a w → (K s).ok P w0 g0 o0 N Q → R .normal a w) :
    ∀ (t : OT) (n : Nat) (listed : Array Bool) (s : St) (a : Act) (w : World), Closed md ops listed → Sim w0 g0 o0 N s a w → (aops std ty cs ops.toList K t s).ok P w0 g0 o0 N Q →
      (drawOk md ty ops t n listed false = true → wpR P md ops (lateO ty ops) R n listed a w) ∧
      (drawOk md ty ops t n listed true = true → ∀ i ∈ t.heads, ∃ m, n = m + 1 ∧ wpOp P ops R i (fun a' w' => (lateO ty ops i = false → LeB w w') ∧ wpR P md ops (lateO ty ops) R m (listed.setIfInBounds i true) a' w') a w) := by
  intro t
  induction t with
  | nil =>
    intro n listed s a w hC hs hok
    refine ⟨fun hB => ?_, fun hB i hi => by cases hi⟩
    simp only [drawOk, Bool.and_eq_true, beq_iff_eq] at hB
    obtain ⟨⟨rfl, _⟩, h⟩ := hB
    exact ⟨by simpa using h, hK s a w hs hok⟩
  | fork x y ihx ihy =>
    intro n listed s a w hC hs hok
    have both : drawOk md ty ops x n listed true = true → drawOk md ty ops y n listed true = true → ∀ i ∈ (OT.fork x y).heads, ∃ m, n = m + 1 ∧ wpOp P ops R i (fun a' w' => (lateO ty ops i = false → LeB w w') ∧ wpR P md ops (lateO ty ops) R m (listed.setIfInBounds i true) a' w') a w := fun h1 h2 i hi => by
      rcases List.mem_append.1 hi with hi | hi
      · exact (ihx n listed s a w hC hs hok.1).2 h1 i hi
      · exact (ihy n listed s a w hC hs hok.2).2 h2 i hi
    refine ⟨fun hB => ?_, fun hB => ?_⟩
    · simp only [drawOk, Bool.and_eq_true, Bool.false_or] at hB
      obtain ⟨⟨⟨h0, h1⟩, h2⟩, h3⟩ := hB
      have hne : Region.ready md ops listed ≠ [] := by simpa using h0
      have hall : ∀ i ∈ Region.ready md ops listed, i ∈ (OT.fork x y).heads := fun i hi => by
        have := List.all_eq_true.1 h1 i hi
        simpa using this
      obtain ⟨i, hi⟩ := List.exists_mem_of_ne_nil _ hne
      obtain ⟨m, rfl, _⟩ := both h2 h3 i (hall i hi)
      refine ⟨fun h => absurd h hne, fun i hi => ?_⟩
      obtain ⟨m', e, h⟩ := both h2 h3 i (hall i hi)
      cases e; exact h
    · simp only [drawOk, Bool.and_eq_true] at hB
      exact both hB.1.2 hB.2
  | cons i rest ih =>
    intro n listed s a w hC hs hok
    cases ho : ops[i]? with
    | none => simp [aops, Array.getElem?_toList, ho, Tree.ok] at hok
    | some o =>
      -- taken from what may come next
      have loud : ∀ m, i ∈ Region.ready md ops listed → drawOk md ty ops rest m (listed.setIfInBounds i true) false = true →
          wpOp P ops R i (fun a' w' => (lateO ty ops i = false → LeB w w') ∧ wpR P md ops (lateO ty ops) R m (listed.setIfInBounds i true) a' w') a w := fun m hr hBr => by
        unfold wpOp
        simp only [ho]
        rcases guard_sound ho hs hok with ⟨hw, s', hs', h⟩ | ⟨hw, s', hs', h⟩
        · simp only [hw, if_true]
          exact .inl (Oper.wp_mono (fun a' w' hg => by
            obtain ⟨hq, s2, hs2, h2⟩ := hg
            refine ⟨fun hl => hq ?_, (ih m _ s2 a' w' (hC.set hr) hs2 h2).1 hBr⟩
            simpa [lateO, ho] using hl) (op_sound hT hs' (dst_at hd ho) h))
        · simp only [hw, Bool.false_eq_true, if_false]
          exact ⟨fun _ => LeB.refl w, (ih m _ _ _ w (hC.set hr) (sim_undef hs' (dst_at hd ho)) h).1 hBr⟩
      refine ⟨fun hB => ?_, fun hB => ?_⟩
      · simp only [drawOk, ho, Bool.and_eq_true, Bool.false_eq_true, if_false, Bool.or_eq_true, beq_iff_eq, bne_iff_ne, ne_eq] at hB
        obtain ⟨⟨hn0, hB⟩, hBr⟩ := hB
        obtain ⟨m, rfl⟩ : ∃ m, n = m + 1 := ⟨n - 1, by omega⟩
        simp only [Nat.add_sub_cancel] at hBr
        rcases hB with hr | ⟨⟨⟨hst, hr⟩, hf⟩, hrd⟩
        · refine ⟨fun h0 => (by rw [hr] at h0; cases h0), fun j hj => ?_⟩
          have hj' := hj
          rw [hr] at hj'
          obtain rfl := List.mem_singleton.1 hj'
          exact loud m hj hBr
        · have hr' : i ∈ Region.ready md ops listed := by simpa using hr
          have hli : lateO ty ops i = false := by
            simp only [lateO, ho, Bool.not_eq_false']
            revert hst
            cases o.op <;> simp only [stillO, quietW, Bool.false_eq_true, false_implies, implies_true]
            case convert src dst x =>
              intro h
              by_cases e : src = dst
              · subst e
                have h : (tyLook src ty).sl = false := by simpa using h
                simp [h]
              · simp [e]
            rename_i c
            obtain ⟨callee, args, tys⟩ := c
            cases callee with
            | builtin b => cases b <;> simp [stillO, quietW]
            | _ => simp [stillO, quietW]
          have hlate : readsM o.op = true → ∀ j oj, ops[j]? = some oj → lateO ty ops j = true → anc md ops i ops.size j = true := fun hrr j oj hj hl => by
            rcases hrd with h | h
            · rw [hrr] at h; simp at h
            · have := List.all_eq_true.1 h j (List.mem_range.2 (Array.getElem?_eq_some_iff.1 hj).1)
              simpa [hl] using this
          rcases guard_sound ho hs hok with ⟨hw, s', hs', h⟩ | ⟨hw, s', hs', h⟩
          · obtain ⟨s1, x, hs1, hx, hy⟩ := still_sound hT (w := w) (a := a) hst h
            have hs1 := hs1 _ _ hs'
            obtain ⟨g, M, hS, h0⟩ := hs1.rel
            obtain ⟨v, h1, h2⟩ := hy g M hS
            exact wpR_first ho (Region.noSelect_spec hn) (fun c a w => panic_put hQ c a _ _ w) hli hlate _ listed a w hC (Region.free_spec ho hf) hr' (.inl ⟨hw, fun W hW => h1 W hW⟩)
              ((ih m _ _ _ w (hC.set hr') (sim_put (s := s1) (ob' := s1.ob) hs1 hS h0 M Step.refl (dst_at hd ho) h2) hx).1 hBr)
          · exact wpR_first ho (Region.noSelect_spec hn) (fun c a w => panic_put hQ c a _ _ w) hli hlate _ listed a w hC (Region.free_spec ho hf) hr' (.inr ⟨hw, rfl⟩)
              ((ih m _ _ _ w (hC.set hr') (sim_undef hs' (dst_at hd ho)) h).1 hBr)
      · simp only [drawOk, ho, Bool.and_eq_true, if_true, bne_iff_ne, ne_eq] at hB
        obtain ⟨⟨hn0, hr⟩, hBr⟩ := hB
        obtain ⟨m, rfl⟩ : ∃ m, n = m + 1 := ⟨n - 1, by omega⟩
        simp only [Nat.add_sub_cancel] at hBr
        intro j hj
        obtain rfl := List.mem_singleton.1 hj
        exact ⟨m, rfl, loud m (by simpa using hr) hBr⟩
end
end Go.Proofs.Ytblafdmmebiagaa
namespace Go.Proofs.Ytblafdmmebiagaa
open Go.RowKit Go.Lib
theorem closed_start {md : Region.Mode} {ops : Array Oper} : Closed md ops (Array.replicate ops.size false) := fun j oj hj hl => by
  have : j < ops.size := (Array.getElem?_eq_some_iff.1 hj).1
  simp [this] at hl
section
variable {P : Program} {ty : Tys} {w0 : World} {g0 : Gh} {o0 : List Ob} {N : Nat} {Q : Ex → St → Prop}
theorem sim_later {s : St} {a : Act} {w w' : World} (hs : Sim w0 g0 o0 N s a w) (hb : LeB w w') : Sim w0 g0 o0 N s a w' := by
  obtain ⟨g, M, hS, h0⟩ := hs.rel
  have E := Ext.below M hb
  have h1 : Step w g s.ob w' g s.ob := ⟨hb.os, hb.tape, hb.output, hb.size, fun b h _ => hb.block b h, fun b id hG => .inl ⟨id, hG⟩, fun b o h => .inl h, E, Nat.le_refl _⟩
  exact ⟨hs.defers, hs.size, g, M.below hb, fun t => (hS t).ext E, h0.trans h1⟩
theorem aexec_sound (hT : TyOk P ty) (hm : P.follows .mixedOrders = true) {cs : Nat → List AV → List Ob → Option (AV × List Ob)} {ord : Nat → OT} :
    ∀ (c : Code) (K : Ex → St → Tree) (R : Exit → Act → World → Prop) (s : St) (a : Act) (w : World), dstOk N c = true → ordOk .any ty ord c = true →
      (∀ c a (d : Tmp) v w, R (.panic c) (a.put (some d) v) w → R (.panic c) a w) → (∀ e s a w, Sim w0 g0 o0 N s a w → (K e s).ok P w0 g0 o0 N Q → R e.conv a w) →
      Sim w0 g0 o0 N s a w → (aexec std ty cs ord c K s).ok P w0 g0 o0 N Q → c.wp P R a w := by
  intro c
  induction c with
  | skip => intro K R s a w _ _ _ hK hs hok; exact wp_skip (hK .normal s a w hs hok)
  | region id ops draw =>
    intro K R s a w hd ho hQ hK hs hok
    cases draw with
    | false =>
      exact wp_region (aops_sound hT hd (fun s a w hs h => hK .normal s a w hs h) _ s a w hs hok)
    | true =>
      simp only [ordOk, if_true, Bool.and_eq_true] at ho
      obtain ⟨h1, h3⟩ := ho
      refine wp_region_any hm (wpAny_of_R (late := lateO ty ops) _ _ _ _ ?_)
      exact (aops_draw hT hd h1 hQ (fun s a w hs h => hK .normal s a w hs h) _ _ _ s a _ closed_start (sim_later hs (LeB.drew w)) hok).1 h3
  | seq x y ihx ihy =>
    intro K R s a w hd ho hQ hK hs hok
    simp only [dstOk, ordOk, Bool.and_eq_true] at hd ho
    refine wp_seq (ihx _ _ s a w hd.1 ho.1 (fun c a d v w h => hQ c a d v w h) (fun e s a w hs h => ?_) hs hok)
    cases e with
    | normal => exact ihy K R s a w hd.2 ho.2 hQ hK hs h
    | exit i => exact hK (.exit i) s a w hs h
    | ret => exact hK .ret s a w hs h
  | cond c x y ihx ihy =>
    intro K R s a w hd ho hQ hK hs hok
    simp only [dstOk, ordOk, Bool.and_eq_true] at hd ho
    unfold aexec at hok
    split at hok
    · rename_i t
      split at hok
      · rename_i hv
        exact wp_cond_true (sim_bool hs hv) (ihx K R s a w hd.1 ho.1 hQ hK hs hok)
      · rename_i hv
        exact wp_cond_false (sim_bool hs hv) (ihy K R s a w hd.2 ho.2 hQ hK hs hok)
      · rename_i b hv
        obtain ⟨h1, h2⟩ := hok
        have e : ∀ c : Bool, lk t (s.put (some t) (.kb c)).tm = .kb c := fun c => if_pos rfl
        cases b with
        | true =>
          have hs' := sim_known hs hv true rfl
          exact wp_cond_true (sim_bool hs' (e true)) (ihx K R _ a w hd.1 ho.1 hQ hK hs' (h1 rfl))
        | false =>
          have hs' := sim_known hs hv false rfl
          exact wp_cond_false (sim_bool hs' (e false)) (ihy K R _ a w hd.2 ho.2 hQ hK hs' (h2 rfl))
      · exact hok.elim
    · exact wp_cond_true rfl (ihx K R s a w hd.1 ho.1 hQ hK hs hok)
    · exact wp_cond_false rfl (ihy K R s a w hd.2 ho.2 hQ hK hs hok)
    · exact hok.elim
  | block id c ih =>
    intro K R s a w hd ho hQ hK hs hok
    simp only [dstOk, ordOk] at hd ho
    refine wp_block (ih _ _ s a w hd ho (fun c a d v w h => hQ c a d v w h) (fun e s a w hs h => ?_) hs hok)
    cases e with
    | normal => exact hK .normal s a w hs h
    | ret => exact hK .ret s a w hs h
    | exit i =>
      show Exit.inBlock id R (.exit i) a w
      simp only [Exit.inBlock]
      simp only at h
      by_cases hi : i = id
      · rw [if_pos hi] at h ⊢
        exact hK .normal s a w hs h
      · rw [if_neg hi] at h ⊢
        exact hK (.exit i) s a w hs h
  | loop c ih =>
    intro K R s a w hd ho hQ hK hs hok
    refine wp_mono (hok a w hs) (fun e a' w' h => ?_)
    obtain ⟨e', s', rfl, hs', h'⟩ := h
    exact hK e' s' a' w' hs' h'
  | exit i => intro K R s a w _ _ _ hK hs hok; exact wp_exit (hK (.exit i) s a w hs hok)
  | ret => intro K R s a w _ _ _ hK hs hok; exact wp_ret (hK .ret s a w hs hok)
  | _ => intro K R s a w _ _ _ _ _ hok; exact hok.elim
end
end Go.Proofs.Ytblafdmmebiagaa
