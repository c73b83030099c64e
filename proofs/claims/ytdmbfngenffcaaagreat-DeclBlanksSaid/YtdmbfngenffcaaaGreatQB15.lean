/- Lemmas, conditions told -/
import Derived.Test.YtdmbfngenffcaaaGreatQB11
import Derived.Test.YtdmbfngenffcaaaGreatQB13
import Derived.Test.YtdmbfngenffcaaaGreatQB14
set_option linter.unusedSimpArgs false
set_option linter.unusedVariables false
namespace Go.Proofs.YtdmbfngenffcaaaGreat
open Go.RowKit Go.Lib
def Fol (q : List Int) : Prop := ∃ x r, q = x :: r ∧ isNameChar x = false ∧ x ≠ 35 ∧ x ≠ 40 ∧ x ≠ 41 ∧ x ≠ 42 ∧ x ≠ 43 ∧ x ≠ 44 ∧ x ≠ 63 ∧ x ≠ 124
def sgnQ (c : UInt8) : Prop := c = 35 ∨ c = 40 ∨ c = 41 ∨ c = 42 ∨ c = 43 ∨ c = 44 ∨ c = 63 ∨ c = 124
abbrev em (p l q : List Int) : List Int := p ++ (l ++ q)
theorem em_drop (p l q : List Int) {k : Int} (hk : Pla l k) : (em p l q).drop ((p.length : Int) + k).toNat = l.drop k.toNat ++ q := by
  unfold Pla at hk
  have e : ((p.length : Int) + k).toNat = p.length + k.toNat := by omega
  rw [e, em, List.drop_append, List.drop_of_length_le (by omega), List.nil_append, show p.length + k.toNat - p.length = k.toNat by omega, List.drop_append, show k.toNat - l.length = 0 by omega, List.drop_zero]
theorem em_sd {p l q : List Int} (hq : Fol q) {k : Int} (hk : Pla l k) {c : UInt8} (hc : sgnQ c) : sdI (em p l q) ((p.length : Int) + k) ⟨⟨[c]⟩⟩ = sdI l k ⟨⟨[c]⟩⟩ := by
  obtain ⟨x, r, rfl, _, hx⟩ := hq
  unfold sdI startsF
  rw [em_drop p l _ hk]
  congr 1
  cases h : l.drop k.toNat with
  | cons y s => simp [List.take]
  | nil =>
    show ((x :: r).take 1 == [(c.toNat : Int)]) = (([] : List Int).take 1 == [(c.toNat : Int)])
    have hne : x ≠ (c.toNat : Int) := by
      rcases hc with rfl | rfl | rfl | rfl | rfl | rfl | rfl | rfl <;> simp <;> omega
    simp [List.take, hne]
theorem em_nx {p l q : List Int} (hq : Fol q) {k : Int} (hk : Pla l k) {c : UInt8} (hc : sgnQ c) : nxI (em p l q) ((p.length : Int) + k) ⟨⟨[c]⟩⟩ = (p.length : Int) + nxI l k ⟨⟨[c]⟩⟩ := by
  unfold nxI
  rw [em_sd hq hk hc]
  split <;> omega
theorem em_tkN {p l q : List Int} (hq : Fol q) {k : Int} (hk : Pla l k) : tkW isNameChar (em p l q) ((p.length : Int) + k) = tkW isNameChar l k := by
  obtain ⟨x, r, rfl, hx, _⟩ := hq
  unfold tkW
  rw [em_drop p l _ hk]
  generalize l.drop k.toNat = d
  induction d with
  | nil => rw [List.nil_append, List.takeWhile_cons, if_neg (by rw [hx]; decide)]; rfl
  | cons y s ih =>
    rw [List.cons_append, List.takeWhile_cons, List.takeWhile_cons, ih]
theorem em_nc {p l q : List Int} (hq : Fol q) {k : Int} (hk : Pla l k) : ncI (em p l q) ((p.length : Int) + k) = (p.length : Int) + ncI l k := by
  unfold ncI
  rw [em_tkN hq hk]; omega
theorem em_wt {p l q : List Int} (hq : Fol q) {k : Int} (hk : Pla l k) : wtB (em p l q) ((p.length : Int) + k) = wtB l k := by
  unfold wtB
  rw [em_tkN hq hk]
theorem em_ok {p l q : List Int} (hq : Fol q) {k : Int} (hk : Pla l k) : okN (em p l q) ((p.length : Int) + k) = okN l k := by
  unfold okN
  rw [em_wt hq hk]
theorem em_oft {p l q : List Int} (hq : Fol q) {k : Int} (hk : Pla l k) : oftI (em p l q) ((p.length : Int) + k) = (p.length : Int) + oftI l k := by
  unfold oftI
  rw [em_sd hq hk (by simp [sgnQ]), em_sd hq hk (by simp [sgnQ]), em_nx hq hk (by simp [sgnQ]), em_nx hq hk (by simp [sgnQ]), em_nx hq hk (by simp [sgnQ])]
  split
  · rfl
  · split <;> rfl
theorem em_sk {p l q : List Int} {k : Int} (hk : Pla l k) (h : skI l k < l.length) : skI (em p l q) ((p.length : Int) + k) = (p.length : Int) + skI l k := by
  unfold skI tkW at *
  rw [em_drop p l _ hk]
  have hd : (l.drop k.toNat).length = l.length - k.toNat := List.length_drop
  have h2 : ((l.drop k.toNat).takeWhile isSpace).length < (l.drop k.toNat).length := by unfold Pla at hk; omega
  generalize l.drop k.toNat = d at *
  have e : ∀ d : List Int, (d.takeWhile isSpace).length < d.length → (d ++ q).takeWhile isSpace = d.takeWhile isSpace := by
    intro d
    induction d with
    | nil => intro h; simp at h
    | cons y s ih =>
      intro h
      rw [List.cons_append, List.takeWhile_cons, List.takeWhile_cons]
      cases hy : isSpace y with
      | false => rfl
      | true =>
        rw [List.takeWhile_cons, hy] at h
        simp only [if_true, List.length_cons] at h
        simp only [if_true]
        rw [ih (by omega)]
  rw [e d h2]; omega
end Go.Proofs.YtdmbfngenffcaaaGreat
namespace Go.Proofs.YtdmbfngenffcaaaGreat
open Go.RowKit Go.Lib
theorem sd_lt {l : List Int} {k : Int} {c : UInt8} (hk : Pla l k) (h : sdI l k ⟨⟨[c]⟩⟩ = true) : k < l.length := by
  unfold Pla at hk
  by_cases hl : k < l.length
  · exact hl
  · unfold sdI startsF at h
    rw [List.drop_of_length_le (by omega)] at h
    simp [bi] at h
theorem nf_nil : nameF [] = false := by decide
theorem ok_lt {l : List Int} {k : Int} (hk : Pla l k) (h : okN l k = true) : k < l.length := by
  unfold Pla at hk
  by_cases hl : k < l.length
  · exact hl
  · unfold okN wtB tkW at h
    rw [List.drop_of_length_le (by omega)] at h
    exact absurd (nf_nil.symm.trans h) (by decide)
def Emb (p l q : List Int) (it it' : Int → Option Int) : Prop := ∀ k r, Pla l k → it k = some r → k < l.length ∧ Pla l r ∧ it' ((p.length : Int) + k) = some ((p.length : Int) + r)
def SgOk (s : ByteArray) : Prop := s = ⟨⟨[]⟩⟩ ∨ s = ⟨⟨[124]⟩⟩ ∨ s = ⟨⟨[44]⟩⟩
theorem em_sg {p l q : List Int} (hq : Fol q) {k : Int} (hk : Pla l k) {sg sg' : ByteArray} {k' : Int} (hs : SgOk sg) (h : sgI l sg k = some (sg', k')) : k < l.length ∧ Pla l k' ∧ SgOk sg' ∧ sgI (em p l q) sg ((p.length : Int) + k) = some (sg', (p.length : Int) + k') := by
  have one : ∀ c : UInt8, sgnQ c → (c = 124 ∨ c = 44) → sgI l ⟨⟨[c]⟩⟩ k = some (sg', k') → k < l.length ∧ Pla l k' ∧ SgOk sg' ∧ sgI (em p l q) ⟨⟨[c]⟩⟩ ((p.length : Int) + k) = some (sg', (p.length : Int) + k') := fun c hc hc2 h => by
    unfold sgI at h ⊢
    rw [if_pos (eqS_sg c)] at h ⊢
    rw [em_sd hq hk hc, em_nx hq hk hc]
    split at h
    · rename_i h1
      cases h
      rw [if_pos h1]
      exact ⟨sd_lt hk h1, hk.nx, hc2.elim (fun e => by subst e; exact .inr (.inl rfl)) (fun e => by subst e; exact .inr (.inr rfl)), rfl⟩
    · cases h
  rcases hs with rfl | rfl | rfl
  · unfold sgI at h ⊢
    rw [if_neg (by rw [eqS_em]; decide)] at h ⊢
    rw [em_sd hq hk (by simp [sgnQ]), em_nx hq hk (by simp [sgnQ]), em_sd hq hk (by simp [sgnQ]), em_nx hq hk (by simp [sgnQ])]
    split at h
    · rename_i h1
      cases h
      rw [if_pos h1]
      exact ⟨sd_lt hk h1, hk.nx, .inr (.inl rfl), rfl⟩
    · rename_i h0
      split at h
      · rename_i h1
        cases h
        rw [if_neg h0, if_pos h1]
        exact ⟨sd_lt hk h1, hk.nx, .inr (.inr rfl), rfl⟩
      · cases h
  · exact one 124 (by simp [sgnQ]) (.inl rfl) h
  · exact one 44 (by simp [sgnQ]) (.inr rfl) h
theorem em_lp {p l q : List Int} (hq : Fol q) {it it' : Int → Option Int} (hi : Emb p l q it it') : ∀ (f f' : Nat) (sg : ByteArray) (k r : Int), f ≤ f' → SgOk sg → Pla l k → lpI l it f sg k = some r → k < l.length ∧ Pla l r ∧ lpI (em p l q) it' f' sg ((p.length : Int) + k) = some ((p.length : Int) + r)
  | 0, _, _, _, _, _, _, _, h => by cases h
  | f + 1, 0, _, _, _, hf, _, _, _ => by omega
  | f + 1, f' + 1, sg, k, r, hf, hs, hk, h => by
    unfold lpI at h ⊢
    rw [em_sd hq hk (by simp [sgnQ]), em_nx hq hk (by simp [sgnQ])]
    split at h
    · rename_i h1
      cases h
      rw [if_pos h1]
      exact ⟨sd_lt hk h1, hk.nx, rfl⟩
    · rename_i h0
      rw [if_neg h0]
      split at h
      · cases h
      · rename_i sg' k1 h1
        obtain ⟨a1, a2, a3, a4⟩ := em_sg (p := p) hq hk hs h1
        rw [a4]
        simp only
        split at h
        · cases h
        · rename_i k2 h2
          obtain ⟨b1, b2, b3⟩ := hi _ _ a2.sp h2
          rw [em_sk a2 b1, b3]
          simp only
          obtain ⟨c1, c2, c3⟩ := em_lp hq hi f f' sg' _ r (by omega) a3 b2.sp h
          rw [em_sk b2 c1, c3]
          exact ⟨a1, c2, rfl⟩
theorem em_gr {p l q : List Int} (hq : Fol q) {it it' : Int → Option Int} (hi : Emb p l q it it') : Emb p l q (grI l it) (grI (em p l q) it') := fun k r hk h => by
  unfold grI at h ⊢
  split at h
  · cases h
  · rename_i k1 h1
    obtain ⟨b1, b2, b3⟩ := hi _ _ hk.sp h1
    rw [em_sk hk b1, b3]
    simp only
    obtain ⟨k3, h3, rfl⟩ := Option.map_eq_some_iff.1 h
    obtain ⟨c1, c2, c3⟩ := em_lp (p := p) hq hi (l.length + 1) ((em p l q).length + 1) _ _ _ (by unfold em; simp only [List.length_append]; omega) (.inl rfl) b2.sp h3
    rw [em_sk b2 c1, c3]
    have := sp_ge l k
    exact ⟨by omega, c2.oft, by rw [Option.map_some, em_oft hq c2]⟩
theorem em_it {p l q : List Int} (hq : Fol q) : ∀ n, Emb p l q (itI l n) (itI (em p l q) n)
  | 0 => fun k r hk h => by
    unfold itI at h ⊢
    rw [em_sd hq hk (by simp [sgnQ]), em_ok hq hk, em_nc hq hk, em_oft hq hk.nc]
    split at h
    · cases h
    · rename_i h0
      split at h
      · rename_i h1
        cases h
        rw [if_neg h0, if_pos h1]
        exact ⟨ok_lt hk h1, hk.nc.oft, rfl⟩
      · cases h
  | n + 1 => fun k r hk h => by
    unfold itI at h ⊢
    rw [em_sd hq hk (by simp [sgnQ]), em_ok hq hk, em_nc hq hk, em_oft hq hk.nc, em_nx hq hk (by simp [sgnQ])]
    split at h
    · rename_i h0
      rw [if_pos h0]
      obtain ⟨b1, b2, b3⟩ := em_gr hq (em_it hq n) _ _ hk.nx h
      exact ⟨sd_lt hk h0, b2, b3⟩
    · rename_i h0
      split at h
      · rename_i h1
        cases h
        rw [if_neg h0, if_pos h1]
        exact ⟨ok_lt hk h1, hk.nc.oft, rfl⟩
      · cases h
end Go.Proofs.YtdmbfngenffcaaaGreat
namespace Go.Proofs.YtdmbfngenffcaaaGreat
open Go.RowKit Go.Lib
theorem em_mE {p l q : List Int} (hq : Fol q) {nm k r : Int} (hk : Pla l k) (h : mxE l (nm, k) = some r) : k < l.length ∧ Pla l r ∧ mxE (em p l q) (nm, (p.length : Int) + k) = some ((p.length : Int) + r) := by
  unfold mxE at h ⊢
  simp only at h ⊢
  have hn := hk.nx (s := ⟨⟨[41]⟩⟩)
  rw [em_sd hq hk (by simp [sgnQ]), em_nx hq hk (by simp [sgnQ]), em_sd hq hn (by simp [sgnQ]), em_nx hq hn (by simp [sgnQ])]
  split at h
  · rename_i h0
    rw [if_pos h0]
    split at h
    · rename_i h1
      cases h
      rw [if_pos h1]
      exact ⟨sd_lt hk h0, hn.nx, rfl⟩
    · rename_i h1
      split at h
      · rename_i h2
        cases h
        rw [if_neg h1, if_pos h2]
        exact ⟨sd_lt hk h0, hn, rfl⟩
      · cases h
  · cases h
theorem em_mx {p l q : List Int} (hq : Fol q) : ∀ (f f' : Nat) (nm k r : Int), f ≤ f' → Pla l k → (lpM l f nm k).bind (mxE l) = some r → k < l.length ∧ Pla l r ∧ (lpM (em p l q) f' nm ((p.length : Int) + k)).bind (mxE (em p l q)) = some ((p.length : Int) + r)
  | 0, _, _, _, _, _, _, h => by cases h
  | f + 1, 0, _, _, _, hf, _, h => by omega
  | f + 1, f' + 1, nm, k, r, hf, hk, h => by
    unfold lpM at h ⊢
    rw [em_sd hq hk (by simp [sgnQ])]
    split at h
    · rename_i h0
      rw [if_pos h0, em_nx hq hk (by simp [sgnQ])]
      split at h
      · rename_i h1
        have hn := hk.nx (s := ⟨⟨[124]⟩⟩)
        rw [em_sk hn (ok_lt hn.sp h1), em_ok hq hn.sp, if_pos h1, em_nc hq hn.sp]
        obtain ⟨c1, c2, c3⟩ := em_mx hq f f' (nm + 1) _ r (by omega) hn.sp.nc.sp h
        rw [em_sk hn.sp.nc c1, c3]
        exact ⟨sd_lt hk h0, c2, rfl⟩
      · cases h
    · rename_i h0
      rw [if_neg h0]
      exact em_mE hq hk h
theorem em_mix {p l q : List Int} (hq : Fol q) {k r : Int} (hk : Pla l k) (h : mixI l k = some r) : Pla l r ∧ mixI (em p l q) ((p.length : Int) + k) = some ((p.length : Int) + r) := by
  unfold mixI at h ⊢
  obtain ⟨c1, c2, c3⟩ := em_mx (p := p) hq (l.length + 1) ((em p l q).length + 1) 0 _ r (by unfold em; simp only [List.length_append]; omega) hk.sp h
  rw [em_sk hk c1, c3]
  exact ⟨c2, rfl⟩
theorem gr_sk {p l q : List Int} {it it' : Int → Option Int} (hi : Emb p l q it it') {k r : Int} (hk : Pla l k) (h : grI l it k = some r) : skI l k < l.length := by
  unfold grI at h
  split at h
  · cases h
  · rename_i k1 h1
    exact (hi _ _ hk.sp h1).1
theorem em_cont {p l q : List Int} (hq : Fol q) {k r : Int} (hk : Pla l k) (h : contI l k = some r) : Pla l r ∧ contI (em p l q) ((p.length : Int) + k) = some ((p.length : Int) + r) := by
  unfold contI at h ⊢
  rw [em_wt hq hk, em_nc hq hk, em_sd hq hk (by simp [sgnQ]), em_nx hq hk (by simp [sgnQ])]
  have hn := hk.nx (s := ⟨⟨[40]⟩⟩)
  split at h
  · rename_i h0
    cases h
    rw [if_pos h0]
    exact ⟨hk.nc, rfl⟩
  rename_i h0
  rw [if_neg h0]
  split at h
  · rename_i h1
    cases h
    rw [if_pos h1]
    exact ⟨hk.nc, rfl⟩
  rename_i h1
  rw [if_neg h1]
  split at h
  · rename_i h2
    rw [if_pos h2]
    have key : skI l (nxI l k ⟨⟨[40]⟩⟩) < l.length := by
      split at h
      · rename_i h3
        exact sd_lt hn.sp h3.1
      · exact gr_sk (p := p) (em_it hq 63) hn h
    have hm := hn.sp.nx (s := ⟨⟨[35]⟩⟩)
    rw [em_sk hn key, em_sd hq hn.sp (by simp [sgnQ]), em_nx hq hn.sp (by simp [sgnQ]), em_wt hq hm, em_nc hq hm]
    split at h
    · rename_i h3
      rw [if_pos h3]
      exact em_mix hq hm.nc h
    · rename_i h3
      rw [if_neg h3]
      obtain ⟨b1, b2, b3⟩ := em_gr (p := p) hq (em_it hq 63) _ _ hn h
      exact ⟨b2, b3⟩
  · cases h
end Go.Proofs.YtdmbfngenffcaaaGreat
namespace Go.Proofs.YtdmbfngenffcaaaGreat
open Go.RowKit Go.Lib
def fine (x : Int) : Prop := isNameChar x = true ∨ isSpace x = true ∨ (35 ≤ x ∧ x ≤ 124)
def Seg (l : List Int) (k r : Int) : Prop := ∀ i : Nat, k ≤ i → (i : Int) < r → ∀ x, l[i]? = some x → fine x
theorem Seg.rfl (l : List Int) (k : Int) : Seg l k k := fun i h1 h2 => by omega
theorem Seg.trans {l : List Int} {a b c : Int} (h : Seg l a b) (h2 : Seg l b c) : Seg l a c := fun i h3 h4 x hx => by
  by_cases hb : (i : Int) < b
  · exact h i h3 hb x hx
  · exact h2 i (by omega) h4 x hx
theorem seg_tk {p : Int → Bool} (hp : ∀ x, p x = true → fine x) {l : List Int} {k : Int} (hk : Pla l k) : Seg l k (k + (tkW p l k).length) := fun i h1 h2 x hx => by
  unfold Pla at hk
  have hj : i - k.toNat < (tkW p l k).length := by omega
  have h3 : (tkW p l k)[i - k.toNat]? = some x := by
    unfold tkW at hj ⊢
    have hpre := (List.takeWhile_prefix p (l := l.drop k.toNat))
    rw [List.prefix_iff_eq_take.1 hpre, List.getElem?_take, if_pos hj, List.getElem?_drop, show k.toNat + (i - k.toNat) = i by omega, hx]
  have h4 := List.mem_of_getElem? h3
  have h5 := List.all_takeWhile (p := p) (l := l.drop k.toNat)
  exact hp x (List.all_eq_true.1 h5 x h4)
theorem seg_nc {l : List Int} {k : Int} (hk : Pla l k) : Seg l k (ncI l k) := seg_tk (fun _ h => .inl h) hk
theorem seg_sk {l : List Int} {k : Int} (hk : Pla l k) : Seg l k (skI l k) := seg_tk (fun _ h => .inr (.inl h)) hk
theorem seg_nx {l : List Int} {k : Int} {c : UInt8} (hk : Pla l k) (hc : sgnQ c) : Seg l k (nxI l k ⟨⟨[c]⟩⟩) := by
  unfold nxI
  split
  · rename_i h
    intro i h1 h2 x hx
    unfold Pla at hk
    have e : i = k.toNat := by
      have h2 : (i : Int) < k + ((1 : Nat) : Int) := h2
      omega
    subst e
    unfold sdI startsF at h
    simp only [Bool.and_eq_true, beq_iff_eq] at h
    have h3 := h.2
    have hl : k.toNat < l.length := (List.getElem?_eq_some_iff.1 hx).1
    simp [bi] at h3
    rw [List.drop_eq_getElem_cons hl] at h3
    have h4 : some l[k.toNat] = some (c.toNat : Int) := congrArg List.head? h3
    have h5 : l[k.toNat] = (c.toNat : Int) := Option.some.inj h4
    have hx2 : l[k.toNat] = x := (List.getElem?_eq_some_iff.1 hx).2
    refine .inr (.inr ?_)
    rw [← hx2, h5]
    rcases hc with rfl | rfl | rfl | rfl | rfl | rfl | rfl | rfl <;> decide
  · exact .rfl l k
end Go.Proofs.YtdmbfngenffcaaaGreat
namespace Go.Proofs.YtdmbfngenffcaaaGreat
open Go.RowKit Go.Lib
theorem seg_oft {l : List Int} {k : Int} (hk : Pla l k) : Seg l k (oftI l k) := by
  unfold oftI
  split
  · exact seg_nx hk (by simp [sgnQ])
  · split <;> exact seg_nx hk (by simp [sgnQ])
theorem seg_sg {l : List Int} {k : Int} (hk : Pla l k) {sg sg' : ByteArray} {k' : Int} (hs : SgOk sg) (h : sgI l sg k = some (sg', k')) : Pla l k' ∧ Seg l k k' ∧ SgOk sg' := by
  unfold sgI at h
  split at h
  · split at h
    · cases h
      refine ⟨hk.nx, ?_, hs⟩
      rcases hs with rfl | rfl | rfl
      · rename_i h0 _; exact absurd (h0.symm.trans eqS_em) (by decide)
      · exact seg_nx hk (by simp [sgnQ])
      · exact seg_nx hk (by simp [sgnQ])
    · cases h
  · split at h
    · cases h; exact ⟨hk.nx, seg_nx hk (by simp [sgnQ]), .inr (.inl rfl)⟩
    · split at h
      · cases h; exact ⟨hk.nx, seg_nx hk (by simp [sgnQ]), .inr (.inr rfl)⟩
      · cases h
def SegI (l : List Int) (it : Int → Option Int) : Prop := ∀ k r, Pla l k → it k = some r → Pla l r ∧ Seg l k r
theorem seg_lp {l : List Int} {it : Int → Option Int} (hi : SegI l it) : ∀ (f : Nat) (sg : ByteArray) (k r : Int), SgOk sg → Pla l k → lpI l it f sg k = some r → Pla l r ∧ Seg l k r
  | 0, _, _, _, _, _, h => by cases h
  | f + 1, sg, k, r, hs, hk, h => by
    unfold lpI at h
    split at h
    · cases h
      exact ⟨hk.nx, seg_nx hk (by simp [sgnQ])⟩
    · split at h
      · cases h
      · rename_i sg' k1 h1
        obtain ⟨a1, a2, a3⟩ := seg_sg hk hs h1
        split at h
        · cases h
        · rename_i k2 h2
          obtain ⟨b1, b2⟩ := hi _ _ a1.sp h2
          obtain ⟨c1, c2⟩ := seg_lp hi f sg' _ r a3 b1.sp h
          exact ⟨c1, a2.trans ((seg_sk a1).trans (b2.trans ((seg_sk b1).trans c2)))⟩
theorem seg_gr {l : List Int} {it : Int → Option Int} (hi : SegI l it) : SegI l (grI l it) := fun k r hk h => by
  unfold grI at h
  split at h
  · cases h
  · rename_i k1 h1
    obtain ⟨b1, b2⟩ := hi _ _ hk.sp h1
    obtain ⟨k3, h3, rfl⟩ := Option.map_eq_some_iff.1 h
    obtain ⟨c1, c2⟩ := seg_lp hi _ _ _ _ (.inl rfl) b1.sp h3
    exact ⟨c1.oft, (seg_sk hk).trans (b2.trans ((seg_sk b1).trans (c2.trans (seg_oft c1))))⟩
theorem seg_it (l : List Int) : ∀ n, SegI l (itI l n)
  | 0 => fun k r hk h => by
    unfold itI at h
    split at h
    · cases h
    · split at h
      · cases h
        exact ⟨hk.nc.oft, (seg_nc hk).trans (seg_oft hk.nc)⟩
      · cases h
  | n + 1 => fun k r hk h => by
    unfold itI at h
    split at h
    · obtain ⟨b1, b2⟩ := seg_gr (seg_it l n) _ _ hk.nx h
      exact ⟨b1, (seg_nx hk (by simp [sgnQ])).trans b2⟩
    · split at h
      · cases h
        exact ⟨hk.nc.oft, (seg_nc hk).trans (seg_oft hk.nc)⟩
      · cases h
theorem seg_mE {l : List Int} {nm k r : Int} (hk : Pla l k) (h : mxE l (nm, k) = some r) : Pla l r ∧ Seg l k r := by
  unfold mxE at h
  simp only at h
  have hn := hk.nx (s := ⟨⟨[41]⟩⟩)
  have s1 := seg_nx (c := 41) hk (by simp [sgnQ])
  split at h
  · split at h
    · cases h
      exact ⟨hn.nx, s1.trans (seg_nx hn (by simp [sgnQ]))⟩
    · split at h
      · cases h; exact ⟨hn, s1⟩
      · cases h
  · cases h
theorem seg_mx {l : List Int} : ∀ (f : Nat) (nm k r : Int), Pla l k → (lpM l f nm k).bind (mxE l) = some r → Pla l r ∧ Seg l k r
  | 0, _, _, _, _, h => by cases h
  | f + 1, nm, k, r, hk, h => by
    unfold lpM at h
    split at h
    · split at h
      · have hn := hk.nx (s := ⟨⟨[124]⟩⟩)
        obtain ⟨c1, c2⟩ := seg_mx f (nm + 1) _ r hn.sp.nc.sp h
        exact ⟨c1, (seg_nx hk (by simp [sgnQ])).trans ((seg_sk hn).trans ((seg_nc hn.sp).trans ((seg_sk hn.sp.nc).trans c2)))⟩
      · cases h
    · exact seg_mE hk h
theorem seg_cont {l : List Int} {k r : Int} (hk : Pla l k) (h : contI l k = some r) : Pla l r ∧ Seg l k r := by
  unfold contI at h
  split at h
  · cases h; exact ⟨hk.nc, seg_nc hk⟩
  split at h
  · cases h; exact ⟨hk.nc, seg_nc hk⟩
  split at h
  · have hn := hk.nx (s := ⟨⟨[40]⟩⟩)
    have s1 := seg_nx (c := 40) hk (by simp [sgnQ])
    split at h
    · have hm := hn.sp.nx (s := ⟨⟨[35]⟩⟩)
      unfold mixI at h
      obtain ⟨c1, c2⟩ := seg_mx _ _ _ _ hm.nc.sp h
      exact ⟨c1, s1.trans ((seg_sk hn).trans ((seg_nx hn.sp (by simp [sgnQ])).trans ((seg_nc hm).trans ((seg_sk hm.nc).trans c2))))⟩
    · obtain ⟨b1, b2⟩ := seg_gr (seg_it l 63) _ _ hn h
      exact ⟨b1, s1.trans b2⟩
  · cases h
theorem cont_fine {l : List Int} (h : contI l 0 = some (l.length : Int)) : ∀ x ∈ l, fine x := fun x hx => by
  obtain ⟨i, hi, rfl⟩ := List.mem_iff_getElem.1 hx
  exact (seg_cont ⟨Int.le_refl 0, by omega⟩ h).2 i (by omega) (by omega) _ (List.getElem?_eq_getElem hi)
end Go.Proofs.YtdmbfngenffcaaaGreat
namespace Go.Proofs.YtdmbfngenffcaaaGreat
open Go.RowKit Go.Lib
theorem fine_char {x : Int} (h : fine x) : isChar x = true := by
  rcases h with h | h | h
  · simp only [isNameChar, isNameStart, inSp, startSp, moreSp, List.any_cons, List.any_nil, Bool.or_eq_true, Bool.and_eq_true, decide_eq_true_eq, Bool.or_false] at h
    simp only [isChar, inSp, charSp, List.any_cons, List.any_nil, Bool.or_eq_true, Bool.and_eq_true, decide_eq_true_eq, Bool.or_false]
    omega
  · simp only [isSpace, Bool.or_eq_true, beq_iff_eq] at h
    simp only [isChar, inSp, charSp, List.any_cons, List.any_nil, Bool.or_eq_true, Bool.and_eq_true, decide_eq_true_eq, Bool.or_false]
    omega
  · simp only [isChar, inSp, charSp, List.any_cons, List.any_nil, Bool.or_eq_true, Bool.and_eq_true, decide_eq_true_eq, Bool.or_false]
    omega
end Go.Proofs.YtdmbfngenffcaaaGreat
namespace Go.Proofs.YtdmbfngenffcaaaGreat
open Go.RowKit Go.Lib
def decL (G1 G2 l G3 : List Int) : List Int := [60, 33, 69, 76, 69, 77, 69, 78, 84] ++ G1 ++ [97] ++ G2 ++ l ++ G3 ++ [62]
def Bl (G : List Int) : Prop := ∀ x ∈ G, isSpace x = true
theorem tk_app {p : Int → Bool} {A B : List Int} (hA : ∀ x ∈ A, p x = true) (hB : ∀ x, B.head? = some x → p x = false) : (A ++ B).takeWhile p = A := by
  induction A with
  | nil =>
    cases B with
    | nil => rfl
    | cons b r => rw [List.nil_append, List.takeWhile_cons, hB b rfl]; rfl
  | cons a r ih =>
    rw [List.cons_append, List.takeWhile_cons, hA a List.mem_cons_self, if_pos rfl, ih fun x hx => hA x (List.mem_cons_of_mem _ hx)]
theorem tkW_app {p : Int → Bool} {P A B : List Int} {k : Int} (hk : k = P.length) (hA : ∀ x ∈ A, p x = true) (hB : ∀ x, B.head? = some x → p x = false) : tkW p (P ++ (A ++ B)) k = A := by
  rw [tkW, show k.toNat = P.length by omega, List.drop_left, tk_app hA hB]
theorem cont_head {x : Int} {r : List Int} {k : Int} (hc : contI (x :: r) 0 = some k) : isSpace x = false := by
  have hsp : isSpace x = true → isNameChar x = false := fun hx => by
    simp only [isSpace, Bool.or_eq_true, beq_iff_eq] at hx
    rcases hx with ((rfl | rfl) | rfl) | rfl <;> rfl
  have hw : 0 < ncI (x :: r) 0 → isSpace x = false := fun h => by
    cases hs : isSpace x with
    | false => rfl
    | true =>
      rw [ncI, tkW, show (0 : Int).toNat = 0 from rfl, List.drop_zero, List.takeWhile_cons, hsp hs] at h
      exact absurd h (by simp)
  unfold contI at hc
  split at hc
  · rename_i h0; exact hw (wt_nc h0 (by decide))
  split at hc
  · rename_i h0; exact hw (wt_nc h0 (by decide))
  split at hc
  · rename_i h0
    simp [sdI, startsF, bi] at h0
    rw [h0]; rfl
  · cases hc
theorem dc_plain (G1 G2 l G3 : List Int) (h1 : G1 ≠ []) (h2 : G2 ≠ []) (b1 : Bl G1) (b2 : Bl G2) (b3 : Bl G3) (hc : contI l 0 = some (l.length : Int)) : dcI (decL G1 G2 l G3) = some (⟨⟨[97]⟩⟩, txF (unSp l)) := by
  have hk0 : Pla l 0 := ⟨Int.le_refl 0, by omega⟩
  have hlp := (cont_gt hk0 hc).1
  have hl0 : ∀ q x, (l ++ q).head? = some x → isSpace x = false := fun q x hx => by
    cases l with
    | nil => simp at hlp
    | cons y r =>
      obtain rfl : y = x := by simpa using hx
      exact cont_head hc
  have hsp : ∀ x, isSpace x = true → isNameChar x = false := fun x hx => by
    simp only [isSpace, Bool.or_eq_true, beq_iff_eq] at hx
    rcases hx with ((rfl | rfl) | rfl) | rfl <;> rfl
  have hall : (decL G1 G2 l G3).all isChar = true := by
    have hb : ∀ G, Bl G → ∀ x ∈ G, isChar x = true := fun G h x hx => fine_char (.inr (.inl (h x hx)))
    rw [List.all_eq_true]
    intro x hx
    simp only [decL, List.mem_append] at hx
    rcases hx with (((((hx | hx) | hx) | hx) | hx) | hx) | hx
    · simp only [List.mem_cons, List.not_mem_nil, or_false] at hx
      rcases hx with rfl | rfl | rfl | rfl | rfl | rfl | rfl | rfl | rfl <;> rfl
    · exact hb _ b1 x hx
    · obtain rfl := List.mem_singleton.1 hx; rfl
    · exact hb _ b2 x hx
    · exact fine_char (cont_fine hc x hx)
    · exact hb _ b3 x hx
    · obtain rfl := List.mem_singleton.1 hx; rfl
  obtain ⟨s, hs⟩ : ∃ s, s = decL G1 G2 l G3 := ⟨_, rfl⟩
  rw [← hs] at hall ⊢
  obtain ⟨p1, hp1⟩ : ∃ p1 : List Int, p1 = [60, 33, 69, 76, 69, 77, 69, 78, 84] := ⟨_, rfl⟩
  have s1 : s = p1 ++ (G1 ++ ([97] ++ (G2 ++ (l ++ (G3 ++ [62]))))) := by rw [hs, hp1, decL]; simp only [List.append_assoc]
  obtain ⟨p2, hp2⟩ : ∃ p2, p2 = p1 ++ G1 := ⟨_, rfl⟩
  have s2 : s = p2 ++ ([97] ++ (G2 ++ (l ++ (G3 ++ [62])))) := by rw [s1, hp2]; simp only [List.append_assoc]
  obtain ⟨p3, hp3⟩ : ∃ p3, p3 = p2 ++ [97] := ⟨_, rfl⟩
  have s3 : s = p3 ++ (G2 ++ (l ++ (G3 ++ [62]))) := by rw [s2, hp3]; simp only [List.append_assoc]
  obtain ⟨p4, hp4⟩ : ∃ p4, p4 = p3 ++ G2 := ⟨_, rfl⟩
  have s4 : s = em p4 l (G3 ++ [62]) := by rw [s3, hp4]; simp only [em, List.append_assoc]
  obtain ⟨p5, hp5⟩ : ∃ p5, p5 = p4 ++ l := ⟨_, rfl⟩
  have s5 : s = p5 ++ (G3 ++ [62]) := by rw [s4, hp5]; simp only [em, List.append_assoc]
  obtain ⟨p6, hp6⟩ : ∃ p6, p6 = p5 ++ G3 := ⟨_, rfl⟩
  have s6 : s = p6 ++ [62] := by rw [s5, hp6]; simp only [List.append_assoc]
  have n1 : p1.length = 9 := by rw [hp1]; rfl
  have n2 : p2.length = p1.length + G1.length := by rw [hp2, List.length_append]
  have n3 : p3.length = p2.length + 1 := by rw [hp3, List.length_append]; rfl
  have n4 : p4.length = p3.length + G2.length := by rw [hp4, List.length_append]
  have n5 : p5.length = p4.length + l.length := by rw [hp5, List.length_append]
  have n6 : p6.length = p5.length + G3.length := by rw [hp6, List.length_append]
  have n7 : s.length = p6.length + 1 := by rw [s6, List.length_append]; rfl
  have g1 := List.length_pos_iff.2 h1
  have g2 := List.length_pos_iff.2 h2
  -- blanks behind the beginning
  have t1 : tkW isSpace s (p1.length : Int) = G1 := by
    rw [s1]
    exact tkW_app rfl b1 fun x hx => by obtain rfl : 97 = x := by simpa using hx
                                        rfl
  have q1 : blI s 9 = some (p2.length : Int) := by
    have e : skI s 9 = p2.length := by
      rw [skI, show (9 : Int) = (p1.length : Int) by omega, t1]; omega
    rw [blI, e, if_pos (by omega)]
  -- the name
  have t2 : tkW isNameChar s (p2.length : Int) = [97] := by
    rw [s2]
    refine tkW_app rfl (fun x hx => by obtain rfl := List.mem_singleton.1 hx; rfl) fun x hx => ?_
    cases hG : G2 with
    | nil => exact absurd hG h2
    | cons y r =>
      rw [hG] at hx
      obtain rfl : y = x := by simpa using hx
      exact hsp _ (b2 y (by rw [hG]; exact List.mem_cons_self))
  have q2 : wtB s (p2.length : Int) = ⟨⟨[97]⟩⟩ := by rw [wtB, t2]; rfl
  have q3 : okN s (p2.length : Int) = true := by rw [okN, q2]; rfl
  have q4 : ncI s (p2.length : Int) = p3.length := by rw [ncI, t2]; simp; omega
  -- blanks behind it
  have t3 : tkW isSpace s (p3.length : Int) = G2 := by
    rw [s3]
    exact tkW_app rfl b2 fun x hx => hl0 _ x hx
  have q5 : blI s (p3.length : Int) = some (p4.length : Int) := by
    have e : skI s (p3.length : Int) = p4.length := by rw [skI, t3]; omega
    rw [blI, e, if_pos (by omega)]
  -- what it may have
  have hF : Fol (G3 ++ [62]) := by
    cases hG : G3 with
    | nil => exact ⟨62, [], rfl, rfl, by decide, by decide, by decide, by decide, by decide, by decide, by decide, by decide⟩
    | cons y r =>
      have hy : isSpace y = true := b3 y (by rw [hG]; exact List.mem_cons_self)
      refine ⟨y, r ++ [62], rfl, hsp _ hy, ?_⟩
      simp only [isSpace, Bool.or_eq_true, beq_iff_eq] at hy
      omega
  have q6 : contI s (p4.length : Int) = some (p5.length : Int) := by
    have := (em_cont (p := p4) hF hk0 hc).2
    rw [← s4, Int.add_zero] at this
    rw [this]; congr 1; omega
  have q7 : cutI s (p4.length : Int) (p5.length : Int) = l := by
    rw [cutI, s4, em, show ((p4.length : Int)).toNat = p4.length by omega, List.drop_left, show ((p5.length : Int) - (p4.length : Int)).toNat = l.length by omega, List.take_left]
  -- blanks, and the end
  have t4 : tkW isSpace s (p5.length : Int) = G3 := by
    rw [s5]
    exact tkW_app rfl b3 fun x hx => by obtain rfl : 62 = x := by simpa using hx
                                        rfl
  have q8 : skI s (p5.length : Int) = p6.length := by rw [skI, t4]; omega
  have q9 : sdI s (p6.length : Int) ⟨⟨[62]⟩⟩ = true := by
    rw [s6]
    simp [sdI, startsF, bi]
  have hE : elI s 9 = some ((⟨⟨[97]⟩⟩, txF (unSp l)), (p5.length : Int)) := by
    rw [elI, q1]; simp only; rw [if_pos q3, q4, q5]; simp only; rw [q6]; simp only; rw [q2, q7]
  rw [dcI, if_pos hall, hE]; simp only; rw [q8, if_pos q9, if_pos (by omega)]
end Go.Proofs.YtdmbfngenffcaaaGreat
namespace Go.Proofs.YtdmbfngenffcaaaGreat
open Go.RowKit Go.Lib
theorem row_i32 {w : World} {a : Option Addr} {len cap : Nat} {zs : List Int} (h : IsRowS .i32 w a len cap zs) : I32 (zs.take len) := fun x hx => by
  rcases h with ⟨_, _, _, rfl⟩ | ⟨_, _, _, _, _, _, hwf⟩
  · simp at hx
  · have h := hwf x (List.mem_of_mem_take hx)
    simp only [Lit.wf, Bool.and_eq_true, decide_eq_true_eq] at h
    exact h
end Go.Proofs.YtdmbfngenffcaaaGreat
namespace Go.Proofs.YtdmbfngenffcaaaGreat
open Go.RowKit Go.Lib
theorem gap_plain (G l : List Int) (hG : Gap G) (hc : contI l 0 = some (l.length : Int)) : ∃ C, dcI (oneL l) = some (⟨⟨[97]⟩⟩, C) ∧ dcI (allL G l) = some (⟨⟨[97]⟩⟩, C) := by
  have hs : Bl [32] := fun x hx => by obtain rfl := List.mem_singleton.1 hx; rfl
  refine ⟨txF (unSp l), ?_, ?_⟩
  · have := dc_plain [32] [32] l [] (by decide) (by decide) hs hs (fun x hx => by cases hx) hc
    rw [← this]
    congr 1
    unfold decL oneL lEla
    simp
  · have := dc_plain G G l G hG.1 hG.1 hG.2.1 hG.2.1 hG.2.1 hc
    rw [← this]
    rfl
theorem DeclBlanks_b (l : List Int) (bs : List UInt8) (hi : I32 l) : BCall Tryz.prog 3 [.slc 1 (runesA l), .slc 1 (bytesA bs)] [] (.val (.bool true)) [] := by
  have hl : (l.take 250).length ≤ 250 := by rw [List.length_take]; omega
  refine BCall.bounded2 (enters_of Tryz.func3 (by kernel_rfl) rfl) fun hb => ?_
  rw [bytes_len] at hb
  exact DB_w (l.take 250) bs hl hb l (few_b l) (RContent_b (l.take 250) (by omega) (fun x hx => hi x (List.mem_of_mem_take hx))) fun G hG hc => gap_plain G _ hG hc
end Go.Proofs.YtdmbfngenffcaaaGreat
