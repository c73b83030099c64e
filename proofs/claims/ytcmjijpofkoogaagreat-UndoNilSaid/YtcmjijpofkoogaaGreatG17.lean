/- Lemmas, conditions told -/
import Derived.Test.YtcmjijpofkoogaaGreatG14
import Derived.Test.YtcmjijpofkoogaaGreatG16
set_option linter.unusedSimpArgs false
set_option linter.unusedVariables false
namespace Go.Proofs.YtcmjijpofkoogaaGreat
open Go.RowKit Go.Lib
theorem attrGo_gt {l : List TPart} {a : Int} (h0 : 0 ≤ a) (h1 : a ≤ l.length) {x : TAttr} {b : Int} (h : attrGo l a = some (x, b)) : a < b ∧ b ≤ l.length := by
  have sk : ∀ (a : Int) (k : Int), 0 ≤ a → a ≤ l.length → a ≤ tkAt l a k ∧ tkAt l a k ≤ l.length := fun a k h2 h3 => by
    obtain ⟨h4, h5, _⟩ := takes_fit l a k h2 h3
    rcases h4 with h4 | h4 <;> omega
  have hit : ∀ (a : Int) (k : Int), 0 ≤ a → a ≤ l.length → takesOk l a.toNat [k] = true → a < l.length := fun a k h2 h3 h4 => by
    have := (takes_iff (l := l) (a := a.toNat) (ks := [k]) (by omega)).1 h4
    simp only [List.length_singleton] at this
    omega
  unfold attrGo at h
  split at h
  · rename_i h2
    have g1 := hit a 3 h0 h1 h2.1
    have g2 := hit (a + 1) 2 (by omega) (by omega) h2.2
    have g3 := sk (a + 2) 3 (by omega) (by omega)
    simp only at h
    split at h
    · rename_i h3
      have g4 := hit _ 4 (by omega) g3.2 h3
      have g5 := sk (tkAt l (a + 2) 3 + 1) 3 (by omega) (by omega)
      split at h
      · rename_i h4
        have g6 := hit _ 5 (by omega) g5.2 h4
        have := Option.some.inj h
        have := (Prod.mk.inj this).2
        omega
      · cases h
    · cases h
  · cases h
theorem attrAt_gt {l : List TPart} {a : Int} (h0 : 0 ≤ a) (h1 : a ≤ l.length) (h : attrOk l a = true) : a < attrAt l a ∧ attrAt l a ≤ l.length := by
  unfold attrOk at h
  unfold attrAt
  cases hg : attrGo l a with
  | none => rw [hg] at h; cases h
  | some x => exact attrGo_gt h0 h1 hg
theorem attrAt_eq {l : List TPart} {a : Int} (h : attrOk l a = false) : attrAt l a = a := by
  unfold attrOk at h
  unfold attrAt
  cases hg : attrGo l a with
  | none => rfl
  | some x => rw [hg] at h; cases h
def attrsGo (l : List TPart) : Nat → Int → List TAttr × Int
  | 0, a => ([], a)
  | f + 1, a => if attrOk l a = true then (attrRes l a :: (attrsGo l f (attrAt l a)).1, (attrsGo l f (attrAt l a)).2) else ([], a)
structure TTag where
  name : TPart
  attrs : List TAttr
  right : Bool
  empty : Bool
def readP (ps : List TPart) : TTag :=
  if takesOk ps 0 [1, 2] = true then
    let q := attrsGo ps (ps.length + 1) 2
    let b := tkAt ps q.2 3
    if takesOk ps b.toNat [6] = true ∧ (ps.length : Int) ≤ b + 1 then
      let e := decide ((ps[b.toNat]?.getD tpart0).to - (ps[b.toNat]?.getD tpart0).from_ = 2)
      let r := decide ((ps[0]?.getD tpart0).to - (ps[0]?.getD tpart0).from_ = 1) || (decide (q.1.length = 0) && !e)
      ⟨ps[1]?.getD tpart0, q.1, r, e && r⟩
    else ⟨ps[1]?.getD tpart0, q.1, false, false⟩
  else ⟨tpart0, [], false, false⟩
def readF (l : List Int) (from_ to : Int) : TTag := readP (partsF l from_ to)
theorem partsGo_in (r : List Int) : ∀ (n : Nat) (r : List Int) (at_ : Int) (first : Bool), r.length ≤ n → ∀ x ∈ partsGo at_ first r, at_ ≤ x.from_ ∧ x.from_ < x.to ∧ x.to ≤ at_ + r.length := by
  intro n
  induction n with
  | zero =>
    intro r at_ first h x hx
    have : r = [] := List.eq_nil_of_length_eq_zero (by omega)
    rw [this, partsGo, dif_pos rfl] at hx
    cases hx
  | succ n ih =>
    intro r at_ first h x hx
    by_cases hr : r = []
    · rw [hr, partsGo, dif_pos rfl] at hx; cases hx
    · have hn := tpiece_n r first hr
      rw [partsGo, dif_neg hr] at hx
      rcases List.mem_cons.1 hx with rfl | hx
      · simp only; omega
      · have := ih (r.drop (tpieceF r first).2.toNat) _ false (by rw [List.length_drop]; omega) x hx
        rw [List.length_drop] at this
        omega
def Small (ps : List TPart) : Prop := ∀ x ∈ ps, 0 ≤ x.from_ ∧ x.from_ ≤ x.to ∧ x.to ≤ 1000000000
theorem small_at {ps : List TPart} (h : Small ps) (i : Nat) : 0 ≤ (ps[i]?.getD tpart0).from_ ∧ (ps[i]?.getD tpart0).from_ ≤ (ps[i]?.getD tpart0).to ∧ (ps[i]?.getD tpart0).to ≤ 1000000000 := by
  cases hi : ps[i]? with
  | none => simp [tpart0]
  | some x => exact h x (List.mem_of_getElem? hi)
theorem tattrs_app (a b : List TAttr) : tattrsA (a ++ b) = tattrsA a ++ tattrsA b := by simp [tattrsA]
theorem tattrs_len (a : List TAttr) : (tattrsA a).length = a.length := by simp [tattrsA]
def csR (ps : List AV) (r22 r53 : AV) (a22 a50 a53 : Int) (ce : Int → Nat → Int) (ok : Int → Bool) (nx : Int → Int) : Nat → List AV → List Ob → Option (AV × List Ob) := fun f args ob => match f with
  | 45 => some (.slc 3 ps, [])
  | 47 => match ob with
    | [.box [q, .val (.int .i64 a)]] => some (.tup [.agg [.val (.int .i64 (ce a 0)), .val (.int .i64 (ce a 1)), .val (.int .i64 (ce a 2)), .val (.int .i64 (ce a 3)), .val (.int .i64 (ce a 4)), .val (.int .i64 (ce a 5)), .val (.int .i64 (ce a 6)), .val (.int .i64 (ce a 7)), .val (.int .i64 (ce a 8))], .val (.bool (ok a))], [.box [q, .val (.int .i64 (nx a))]])
    | _ => none
  | 1000022 => match ob with
    | [.box [q, _]] => some (r22, [.box [q, .val (.int .i64 a22)]])
    | _ => none
  | 1000050 => match ob with
    | [.box [q, _]] => some (.dead, [.box [q, .val (.int .i64 a50)]])
    | _ => none
  | 1000053 => match ob with
    | [.box [q, _]] => some (r53, [.box [q, .val (.int .i64 a53)]])
    | _ => none
  | _ => none
def ceF (ps : List TPart) (a : Int) (j : Nat) : Int := intOf ((attrRes ps a).cs.getD j .dead)
set_option maxRecDepth 20000 in
set_option maxHeartbeats 4000000 in
theorem Read_none (l : List Int) (hl : l.length ≤ 1000000000) (from_ to : Int) (h0 : 0 ≤ from_) (h1 : from_ ≤ to) (h2 : to ≤ l.length) (ps : List TPart) (hps : ps = partsF l from_ to) (hpl : ps.length ≤ 1000000000) (hop : takesOk ps 0 [1, 2] = false) :
    BCall Tryz.prog 21 [.slc 1 (runesA l), .val (.int .i64 from_), .val (.int .i64 to)] [] (.agg [.val (.int .i64 0), .val (.int .i64 0), .val (.int .i64 0), .slc 9 [], .val (.bool false), .val (.bool false)]) [] := by
  have cP := Parts_b l hl from_ to h0 h1 h2
  rw [← hps] at cP
  have c22 := takes_not ps hpl 0 (by omega) (by omega) [1, 2] (by simp) hop
  clear h2
  refine fnN (csR (tpartsA ps) (.val (.slice none 0 0)) .dead 0 0 0 (fun _ _ => 0) (fun _ => false) (fun a => a)) Tryz.func21 rfl fun _ _ => ?_
  with_reducible refine cv2 (tpartsA ps) (runesA l) ?_
  exact ⟨cP, c22, .pure rfl ⟨.inl rfl, .inl rfl, .inl rfl, .inr (.inl ⟨rfl, _, rfl⟩), .inl rfl, .inl rfl, trivial⟩⟩
theorem attrsGo_range {l : List TPart} : ∀ (f : Nat) (a : Int), 0 ≤ a → a ≤ l.length → a ≤ (attrsGo l f a).2 ∧ (attrsGo l f a).2 ≤ l.length
  | 0, a, h0, h1 => ⟨Int.le_refl _, h1⟩
  | f + 1, a, h0, h1 => by
    rw [attrsGo]
    split
    · rename_i h
      have h2 := attrAt_gt h0 h1 h
      have h3 := attrsGo_range (l := l) f (attrAt l a) (by omega) h2.2
      simp only; omega
    · exact ⟨Int.le_refl _, h1⟩
set_option maxRecDepth 20000 in
set_option maxHeartbeats 8000000 in
theorem Read_miss (l : List Int) (hl : l.length ≤ 1000000000) (from_ to : Int) (h0 : 0 ≤ from_) (h1 : from_ ≤ to) (h2 : to ≤ l.length) (ps : List TPart) (hps : ps = partsF l from_ to) (hpl : ps.length ≤ 1000000) (hsm : Small ps) (hop : takesOk ps 0 [1, 2] = true)
    (hcl : takesOk ps (tkAt ps (attrsGo ps (ps.length + 1) 2).2 3).toNat [6] = false) :
    BCall Tryz.prog 21 [.slc 1 (runesA l), .val (.int .i64 from_), .val (.int .i64 to)] [] (.agg [.val (.int .i64 (readP ps).name.kind), .val (.int .i64 (readP ps).name.from_), .val (.int .i64 (readP ps).name.to), .slc 9 (tattrsA (readP ps).attrs), .val (.bool (readP ps).right), .val (.bool (readP ps).empty)]) [] := by
  have cP := Parts_b l hl from_ to h0 h1 h2
  rw [← hps] at cP
  obtain ⟨n, hn⟩ := exLen ps
  have hn0 : 2 ≤ n := by
    have := (takes_iff (l := ps) (a := 0) (ks := [1, 2]) (by omega)).1 hop
    simp only [List.length_cons, List.length_nil] at this
    rw [hn.eq]; omega
  have hnm : n ≤ 1000000 := by rw [hn.eq]; omega
  obtain ⟨o, ho⟩ : ∃ o, o = ps[0]?.getD tpart0 := ⟨_, rfl⟩
  obtain ⟨nm, hnmE⟩ : ∃ o, o = ps[1]?.getD tpart0 := ⟨_, rfl⟩
  have c22 := takes_any ps (by omega) 0 (by omega) (by omega) [1, 2] (by simp) (.slc 3 [.agg [.val (.int .i64 o.kind), .val (.int .i64 o.from_), .val (.int .i64 o.to)], .agg [.val (.int .i64 nm.kind), .val (.int .i64 nm.from_), .val (.int .i64 nm.to)]]) 2
    (fun _ => ⟨by
      have e := hn.eq
      match ps, hn0, e, ho, hnmE with
      | [], h, e, _, _ => simp at e; omega
      | [_], h, e, _, _ => simp at e; omega
      | x :: y :: r, _, _, ho, hq => rw [ho, hq]; rfl, rfl⟩) (fun h => by rw [show (0 : Int).toNat = 0 from rfl, hop] at h; cases h)
  obtain ⟨ats, hats⟩ : ∃ x, x = (attrsGo ps (ps.length + 1) 2).1 := ⟨_, rfl⟩
  obtain ⟨ae, hae⟩ : ∃ x, x = (attrsGo ps (ps.length + 1) 2).2 := ⟨_, rfl⟩
  rw [← hae] at hcl
  have hae0 : 0 ≤ ae ∧ ae ≤ n := by
    have e := hn.eq
    have := attrsGo_range (l := ps) (ps.length + 1) 2 (by omega) (by omega)
    rw [← hae] at this
    omega
  obtain ⟨b, hb⟩ : ∃ b, b = tkAt ps ae 3 := ⟨_, rfl⟩
  have hbr : 0 ≤ b ∧ b ≤ n := by
    have e := hn.eq
    have := takes_fit ps ae 3 hae0.1 (by omega)
    rw [← hb] at this
    omega
  have c50 : BCall Tryz.prog 46 [.box 0 0, .slc 1 [.val (.int .i64 3)]] [.box [.slc 3 (tpartsA ps), .val (.int .i64 ae)]] .dead [.box [.slc 3 (tpartsA ps), .val (.int .i64 b)]] := by
    rw [hb]; exact (takes_skip ps (by omega) ae hae0.1 (by rw [← hn.eq]; exact hae0.2) 3).2.2
  rw [← hb] at hcl
  obtain ⟨q, hq⟩ : ∃ q, q = ps[b.toNat]?.getD tpart0 := ⟨_, rfl⟩
  obtain ⟨b1, hb1⟩ : ∃ b1, b1 = b + 1 := ⟨_, rfl⟩
  have c53 := takes_not ps (by omega) b hbr.1 (by rw [← hn.eq]; exact hbr.2) [6] (by simp) hcl
  have hR : readP ps = ⟨nm, ats, false, false⟩ := by
    simp only [readP, hop, if_true, ← hats, ← hae, ← hb, hcl, ← hnmE, Bool.false_eq_true, false_and, if_false]
  have so := small_at hsm 0
  have sq := small_at hsm b.toNat
  rw [← ho] at so
  rw [← hq] at sq
  obtain ⟨ce, hce⟩ : ∃ f, f = ceF ps := ⟨_, rfl⟩
  obtain ⟨ok, hok⟩ : ∃ f, f = attrOk ps := ⟨_, rfl⟩
  obtain ⟨nx, hnx⟩ : ∃ f, f = attrAt ps := ⟨_, rfl⟩
  have cA : ∀ a : Int, 0 ≤ a → a ≤ n → BCall Tryz.prog 47 [.box 0 0] [.box [.slc 3 (tpartsA ps), .val (.int .i64 a)]] (.tup [.agg [.val (.int .i64 (ce a 0)), .val (.int .i64 (ce a 1)), .val (.int .i64 (ce a 2)), .val (.int .i64 (ce a 3)), .val (.int .i64 (ce a 4)), .val (.int .i64 (ce a 5)), .val (.int .i64 (ce a 6)), .val (.int .i64 (ce a 7)), .val (.int .i64 (ce a 8))], .val (.bool (ok a))]) [.box [.slc 3 (tpartsA ps), .val (.int .i64 (nx a))]] := fun a h3 h4 => by
    rw [hce, hok, hnx]; exact attr_b ps (by omega) a h3 (by rw [← hn.eq]; exact h4)
  have hgt : ∀ a : Int, 0 ≤ a → a ≤ n → ok a = true → a < nx a ∧ nx a ≤ n := fun a h3 h4 h5 => by
    rw [hok] at h5; rw [hnx, hn.eq]; exact attrAt_gt h3 (by rw [← hn.eq]; exact h4) h5
  have heq' : ∀ a : Int, ok a = false → nx a = a := fun a h3 => by rw [hok] at h3; rw [hnx]; exact attrAt_eq h3
  have hone : ∀ a : Int, tattrsA [attrRes ps a] = [.agg [.val (.int .i64 (ce a 0)), .val (.int .i64 (ce a 1)), .val (.int .i64 (ce a 2)), .val (.int .i64 (ce a 3)), .val (.int .i64 (ce a 4)), .val (.int .i64 (ce a 5)), .val (.int .i64 (ce a 6)), .val (.int .i64 (ce a 7)), .val (.int .i64 (ce a 8))]] := fun a => by rw [hce]; rfl
  have hgo : ∀ (f : Nat) (a : Int), ok a = true → attrsGo ps (f + 1) a = (attrRes ps a :: (attrsGo ps f (nx a)).1, (attrsGo ps f (nx a)).2) := fun f a h => by
    rw [hok] at h; rw [hnx, attrsGo, if_pos h]
  have hgo' : ∀ (f : Nat) (a : Int), ok a = false → attrsGo ps (f + 1) a = ([], a) := fun f a h => by
    rw [hok] at h; rw [attrsGo, if_neg (by rw [h]; exact Bool.false_ne_true)]
  rw [hR]
  clear hcl hop hce hok hnx hR h2 ho hnmE hq hb
  refine fnN (csR (tpartsA ps) (.slc 3 [.agg [.val (.int .i64 o.kind), .val (.int .i64 o.from_), .val (.int .i64 o.to)], .agg [.val (.int .i64 nm.kind), .val (.int .i64 nm.from_), .val (.int .i64 nm.to)]]) (.val (.slice none 0 0)) 2 b b ce ok nx) Tryz.func21 rfl fun _ _ => ?_
  with_reducible refine cv2 (tpartsA ps) (runesA l) ?_
  have en := hn.eq
  repeat' first
    | exact cP
    | exact c22
    | exact cA 2 (by omega) hn0
    | (with_reducible refine And.intro (fun hx => absurd hx (by simp [std])) ?_)
    | (with_reducible refine And.intro (by (first | (simp [std, allP, AV.cells, intOf]; done) | exact cP | exact c22 | exact cA 2 (by omega) hn0)) ?_)
    | (with_reducible refine And.intro ?_ ?_)
    | (with_reducible intro _)
  refine loopN (csR (tpartsA ps) (.slc 3 [.agg [.val (.int .i64 o.kind), .val (.int .i64 o.from_), .val (.int .i64 o.to)], .agg [.val (.int .i64 nm.kind), .val (.int .i64 nm.from_), .val (.int .i64 nm.to)]]) (.val (.slice none 0 0)) 2 b b ce ok nx) (List TAttr × Int) (fun x => ⟨[(6, .box 0 0), (7, .box 1 0), (8, .box 2 0), (9, .slc 3 [.agg [.val (.int .i64 o.kind), .val (.int .i64 o.from_), .val (.int .i64 o.to)], .agg [.val (.int .i64 nm.kind), .val (.int .i64 nm.from_), .val (.int .i64 nm.to)]]), (10, .box 3 0), (11, .val (.bool (ok x.2)))], [.box [.val (.int .i64 0), .val (.int .i64 0), .val (.int .i64 0), .val (.slice none 0 0), .val (.bool false), .val (.bool false)], .box [.val (.int .i64 nm.kind), .val (.int .i64 nm.from_), .val (.int .i64 nm.to), .row 4 0, .val (.bool false), .val (.bool false)], .box [.slc 3 (tpartsA ps), .val (.int .i64 (nx x.2))], .box [.val (.int .i64 (ce x.2 0)), .val (.int .i64 (ce x.2 1)), .val (.int .i64 (ce x.2 2)), .val (.int .i64 (ce x.2 3)), .val (.int .i64 (ce x.2 4)), .val (.int .i64 (ce x.2 5)), .val (.int .i64 (ce x.2 6)), .val (.int .i64 (ce x.2 7)), .val (.int .i64 (ce x.2 8))], .row 56 9 false 0 (tattrsA x.1)]⟩) (fun x => 0 ≤ x.2 ∧ x.2 ≤ n ∧ (∃ f : Nat, n - x.2 < f ∧ x.1 ++ (attrsGo ps f x.2).1 = ats ∧ (attrsGo ps f x.2).2 = ae) ∧ x.1.length ≤ x.2.toNat) (fun x => (n - x.2).toNat) ([], 2) ?_ ?_ ?_
  · exact ⟨by simp, hn0, ⟨ps.length + 1, by simp only; omega, by rw [hats]; rfl, by rw [hae]⟩, by simp⟩
  · exact ⟨[some 0, some 1, some 2, some 4, none], _, rfl, by simp [AllEq, lk, std, AV.cells, intOf, tattrsA]⟩
  · rintro ⟨out, a⟩ ⟨hJ0, hJ1, ⟨f, hJ2, hJ3, hJ4⟩, hJ5⟩
    simp only at hJ0 hJ1 hJ2 hJ3 hJ4 hJ5
    have hol := tattrs_len out
    obtain ⟨f, rfl⟩ : ∃ f', f = f' + 1 := ⟨f - 1, by omega⟩
    cases hoka : ok a with
    | true =>
      have e1 := hgt a hJ0 hJ1 hoka
      have cN := cA (nx a) (by omega) e1.2
      rw [hgo f a hoka] at hJ3 hJ4
      have hG : out ++ [attrRes ps a] ++ (attrsGo ps f (nx a)).1 = ats := by rw [← hJ3]; simp
      have ho1 := hone a
      have hJ2' : n - nx a < f := by omega
      have hJ5' : (out ++ [attrRes ps a]).length ≤ (nx a).toNat := by simp only [List.length_append, List.length_singleton]; omega
      have hJ6 : out.length ≤ 1000000 := by omega
      clear en hJ2
      with_reducible refine cv3 (tpartsA ps) (runesA l) (tattrsA out) ?_
      repeat' first
        | exact cN
        | (with_reducible refine And.intro (fun _ => ?_) (fun hx => absurd (hoka.symm.trans hx) (by decide)))
        | (with_reducible refine And.intro (by (first | exact cN | (simp [std, hol]; omega))) ?_)
        | (with_reducible intro _)
      refine ⟨(out ++ [attrRes ps a], nx a), ⟨by simp only; omega, e1.2, ⟨f, hJ2', hG, hJ4⟩, hJ5'⟩, by simp only; omega, [some 0, some 1, some 2, some 6, some 4], _, rfl, ?_⟩
      simp [AllEq, lk, std, tattrs_app, ho1]
    | false =>
      have e1 := heq' a hoka
      rw [hgo' f a hoka] at hJ3 hJ4
      simp only [List.append_nil] at hJ3 hJ4
      have hoL : out.length ≤ 1000000 := by omega
      rw [e1, hJ4]
      subst hJ3
      clear en hJ2
      with_reducible refine cv3 (tpartsA ps) (runesA l) (tattrsA out) ?_
      repeat' first
        | (with_reducible refine And.intro (fun hx => absurd (hoka.symm.trans hx) (by decide)) (fun _ => ?_))
        | (with_reducible intro _)
      rw [if_pos trivial]
      with_reducible refine cv3 (tpartsA ps) (runesA l) (tattrsA out) ?_
      exact ⟨c50, c53, .pure rfl ⟨.inl rfl, .inl rfl, .inl rfl, .inl rfl, .inl rfl, .inl rfl, trivial⟩⟩
set_option maxRecDepth 20000 in
set_option maxHeartbeats 8000000 in
theorem Read_hit (l : List Int) (hl : l.length ≤ 1000000000) (from_ to : Int) (h0 : 0 ≤ from_) (h1 : from_ ≤ to) (h2 : to ≤ l.length) (ps : List TPart) (hps : ps = partsF l from_ to) (hpl : ps.length ≤ 1000000) (hsm : Small ps) (hop : takesOk ps 0 [1, 2] = true)
    (hcl : takesOk ps (tkAt ps (attrsGo ps (ps.length + 1) 2).2 3).toNat [6] = true) :
    BCall Tryz.prog 21 [.slc 1 (runesA l), .val (.int .i64 from_), .val (.int .i64 to)] [] (.agg [.val (.int .i64 (readP ps).name.kind), .val (.int .i64 (readP ps).name.from_), .val (.int .i64 (readP ps).name.to), .slc 9 (tattrsA (readP ps).attrs), .val (.bool (readP ps).right), .val (.bool (readP ps).empty)]) [] := by
  have cP := Parts_b l hl from_ to h0 h1 h2
  rw [← hps] at cP
  obtain ⟨n, hn⟩ := exLen ps
  have hn0 : 2 ≤ n := by
    have := (takes_iff (l := ps) (a := 0) (ks := [1, 2]) (by omega)).1 hop
    simp only [List.length_cons, List.length_nil] at this
    rw [hn.eq]; omega
  have hnm : n ≤ 1000000 := by rw [hn.eq]; omega
  obtain ⟨o, ho⟩ : ∃ o, o = ps[0]?.getD tpart0 := ⟨_, rfl⟩
  obtain ⟨nm, hnmE⟩ : ∃ o, o = ps[1]?.getD tpart0 := ⟨_, rfl⟩
  have c22 := takes_any ps (by omega) 0 (by omega) (by omega) [1, 2] (by simp) (.slc 3 [.agg [.val (.int .i64 o.kind), .val (.int .i64 o.from_), .val (.int .i64 o.to)], .agg [.val (.int .i64 nm.kind), .val (.int .i64 nm.from_), .val (.int .i64 nm.to)]]) 2
    (fun _ => ⟨by
      have e := hn.eq
      match ps, hn0, e, ho, hnmE with
      | [], h, e, _, _ => simp at e; omega
      | [_], h, e, _, _ => simp at e; omega
      | x :: y :: r, _, _, ho, hq => rw [ho, hq]; rfl, rfl⟩) (fun h => by rw [show (0 : Int).toNat = 0 from rfl, hop] at h; cases h)
  obtain ⟨ats, hats⟩ : ∃ x, x = (attrsGo ps (ps.length + 1) 2).1 := ⟨_, rfl⟩
  obtain ⟨ae, hae⟩ : ∃ x, x = (attrsGo ps (ps.length + 1) 2).2 := ⟨_, rfl⟩
  rw [← hae] at hcl
  have hae0 : 0 ≤ ae ∧ ae ≤ n := by
    have e := hn.eq
    have := attrsGo_range (l := ps) (ps.length + 1) 2 (by omega) (by omega)
    rw [← hae] at this
    omega
  obtain ⟨b, hb⟩ : ∃ b, b = tkAt ps ae 3 := ⟨_, rfl⟩
  have hbr : 0 ≤ b ∧ b ≤ n := by
    have e := hn.eq
    have := takes_fit ps ae 3 hae0.1 (by omega)
    rw [← hb] at this
    omega
  have c50 : BCall Tryz.prog 46 [.box 0 0, .slc 1 [.val (.int .i64 3)]] [.box [.slc 3 (tpartsA ps), .val (.int .i64 ae)]] .dead [.box [.slc 3 (tpartsA ps), .val (.int .i64 b)]] := by
    rw [hb]; exact (takes_skip ps (by omega) ae hae0.1 (by rw [← hn.eq]; exact hae0.2) 3).2.2
  rw [← hb] at hcl
  obtain ⟨q, hq⟩ : ∃ q, q = ps[b.toNat]?.getD tpart0 := ⟨_, rfl⟩
  obtain ⟨b1, hb1⟩ : ∃ b1, b1 = b + 1 := ⟨_, rfl⟩
  have c53 := (takes_one ps (by omega) b hbr.1 (by rw [← hn.eq]; exact hbr.2) 6 hcl).2
  rw [← hq, ← hb1] at c53
  have hR : readP ps = if n ≤ b1 then ⟨nm, ats, decide (o.to - o.from_ = 1) || (decide (ats.length = 0) && !decide (q.to - q.from_ = 2)), decide (q.to - q.from_ = 2) && (decide (o.to - o.from_ = 1) || (decide (ats.length = 0) && !decide (q.to - q.from_ = 2)))⟩ else ⟨nm, ats, false, false⟩ := by
    simp only [readP, hop, if_true, ← hats, ← hae, ← hb, hcl, ← hq, ← ho, ← hnmE, true_and, hn.eq, hb1]
  have so := small_at hsm 0
  have sq := small_at hsm b.toNat
  rw [← ho] at so
  rw [← hq] at sq
  obtain ⟨ce, hce⟩ : ∃ f, f = ceF ps := ⟨_, rfl⟩
  obtain ⟨ok, hok⟩ : ∃ f, f = attrOk ps := ⟨_, rfl⟩
  obtain ⟨nx, hnx⟩ : ∃ f, f = attrAt ps := ⟨_, rfl⟩
  have cA : ∀ a : Int, 0 ≤ a → a ≤ n → BCall Tryz.prog 47 [.box 0 0] [.box [.slc 3 (tpartsA ps), .val (.int .i64 a)]] (.tup [.agg [.val (.int .i64 (ce a 0)), .val (.int .i64 (ce a 1)), .val (.int .i64 (ce a 2)), .val (.int .i64 (ce a 3)), .val (.int .i64 (ce a 4)), .val (.int .i64 (ce a 5)), .val (.int .i64 (ce a 6)), .val (.int .i64 (ce a 7)), .val (.int .i64 (ce a 8))], .val (.bool (ok a))]) [.box [.slc 3 (tpartsA ps), .val (.int .i64 (nx a))]] := fun a h3 h4 => by
    rw [hce, hok, hnx]; exact attr_b ps (by omega) a h3 (by rw [← hn.eq]; exact h4)
  have hgt : ∀ a : Int, 0 ≤ a → a ≤ n → ok a = true → a < nx a ∧ nx a ≤ n := fun a h3 h4 h5 => by
    rw [hok] at h5; rw [hnx, hn.eq]; exact attrAt_gt h3 (by rw [← hn.eq]; exact h4) h5
  have heq' : ∀ a : Int, ok a = false → nx a = a := fun a h3 => by rw [hok] at h3; rw [hnx]; exact attrAt_eq h3
  have hone : ∀ a : Int, tattrsA [attrRes ps a] = [.agg [.val (.int .i64 (ce a 0)), .val (.int .i64 (ce a 1)), .val (.int .i64 (ce a 2)), .val (.int .i64 (ce a 3)), .val (.int .i64 (ce a 4)), .val (.int .i64 (ce a 5)), .val (.int .i64 (ce a 6)), .val (.int .i64 (ce a 7)), .val (.int .i64 (ce a 8))]] := fun a => by rw [hce]; rfl
  have hgo : ∀ (f : Nat) (a : Int), ok a = true → attrsGo ps (f + 1) a = (attrRes ps a :: (attrsGo ps f (nx a)).1, (attrsGo ps f (nx a)).2) := fun f a h => by
    rw [hok] at h; rw [hnx, attrsGo, if_pos h]
  have hgo' : ∀ (f : Nat) (a : Int), ok a = false → attrsGo ps (f + 1) a = ([], a) := fun f a h => by
    rw [hok] at h; rw [attrsGo, if_neg (by rw [h]; exact Bool.false_ne_true)]
  rw [hR]
  clear hcl hop hce hok hnx hR h2 ho hnmE hq hb
  refine fnN (csR (tpartsA ps) (.slc 3 [.agg [.val (.int .i64 o.kind), .val (.int .i64 o.from_), .val (.int .i64 o.to)], .agg [.val (.int .i64 nm.kind), .val (.int .i64 nm.from_), .val (.int .i64 nm.to)]]) (.slc 3 [.agg [.val (.int .i64 q.kind), .val (.int .i64 q.from_), .val (.int .i64 q.to)]]) 2 b b1 ce ok nx) Tryz.func21 rfl fun _ _ => ?_
  with_reducible refine cv2 (tpartsA ps) (runesA l) ?_
  have en := hn.eq
  repeat' first
    | exact cP
    | exact c22
    | exact cA 2 (by omega) hn0
    | (with_reducible refine And.intro (fun hx => absurd hx (by simp [std])) ?_)
    | (with_reducible refine And.intro (by (first | (simp [std, allP, AV.cells, intOf]; done) | exact cP | exact c22 | exact cA 2 (by omega) hn0)) ?_)
    | (with_reducible refine And.intro ?_ ?_)
    | (with_reducible intro _)
  refine loopN (csR (tpartsA ps) (.slc 3 [.agg [.val (.int .i64 o.kind), .val (.int .i64 o.from_), .val (.int .i64 o.to)], .agg [.val (.int .i64 nm.kind), .val (.int .i64 nm.from_), .val (.int .i64 nm.to)]]) (.slc 3 [.agg [.val (.int .i64 q.kind), .val (.int .i64 q.from_), .val (.int .i64 q.to)]]) 2 b b1 ce ok nx) (List TAttr × Int) (fun x => ⟨[(6, .box 0 0), (7, .box 1 0), (8, .box 2 0), (9, .slc 3 [.agg [.val (.int .i64 o.kind), .val (.int .i64 o.from_), .val (.int .i64 o.to)], .agg [.val (.int .i64 nm.kind), .val (.int .i64 nm.from_), .val (.int .i64 nm.to)]]), (10, .box 3 0), (11, .val (.bool (ok x.2)))], [.box [.val (.int .i64 0), .val (.int .i64 0), .val (.int .i64 0), .val (.slice none 0 0), .val (.bool false), .val (.bool false)], .box [.val (.int .i64 nm.kind), .val (.int .i64 nm.from_), .val (.int .i64 nm.to), .row 4 0, .val (.bool false), .val (.bool false)], .box [.slc 3 (tpartsA ps), .val (.int .i64 (nx x.2))], .box [.val (.int .i64 (ce x.2 0)), .val (.int .i64 (ce x.2 1)), .val (.int .i64 (ce x.2 2)), .val (.int .i64 (ce x.2 3)), .val (.int .i64 (ce x.2 4)), .val (.int .i64 (ce x.2 5)), .val (.int .i64 (ce x.2 6)), .val (.int .i64 (ce x.2 7)), .val (.int .i64 (ce x.2 8))], .row 56 9 false 0 (tattrsA x.1)]⟩) (fun x => 0 ≤ x.2 ∧ x.2 ≤ n ∧ (∃ f : Nat, n - x.2 < f ∧ x.1 ++ (attrsGo ps f x.2).1 = ats ∧ (attrsGo ps f x.2).2 = ae) ∧ x.1.length ≤ x.2.toNat) (fun x => (n - x.2).toNat) ([], 2) ?_ ?_ ?_
  · exact ⟨by simp, hn0, ⟨ps.length + 1, by simp only; omega, by rw [hats]; rfl, by rw [hae]⟩, by simp⟩
  · exact ⟨[some 0, some 1, some 2, some 4, none], _, rfl, by simp [AllEq, lk, std, AV.cells, intOf, tattrsA]⟩
  · rintro ⟨out, a⟩ ⟨hJ0, hJ1, ⟨f, hJ2, hJ3, hJ4⟩, hJ5⟩
    simp only at hJ0 hJ1 hJ2 hJ3 hJ4 hJ5
    have hol := tattrs_len out
    obtain ⟨f, rfl⟩ : ∃ f', f = f' + 1 := ⟨f - 1, by omega⟩
    cases hoka : ok a with
    | true =>
      have e1 := hgt a hJ0 hJ1 hoka
      have cN := cA (nx a) (by omega) e1.2
      rw [hgo f a hoka] at hJ3 hJ4
      have hG : out ++ [attrRes ps a] ++ (attrsGo ps f (nx a)).1 = ats := by rw [← hJ3]; simp
      have ho1 := hone a
      have hJ2' : n - nx a < f := by omega
      have hJ5' : (out ++ [attrRes ps a]).length ≤ (nx a).toNat := by simp only [List.length_append, List.length_singleton]; omega
      have hJ6 : out.length ≤ 1000000 := by omega
      clear en hJ2
      with_reducible refine cv3 (tpartsA ps) (runesA l) (tattrsA out) ?_
      repeat' first
        | exact cN
        | (with_reducible refine And.intro (fun _ => ?_) (fun hx => absurd (hoka.symm.trans hx) (by decide)))
        | (with_reducible refine And.intro (by (first | exact cN | (simp [std, hol]; omega))) ?_)
        | (with_reducible intro _)
      refine ⟨(out ++ [attrRes ps a], nx a), ⟨by simp only; omega, e1.2, ⟨f, hJ2', hG, hJ4⟩, hJ5'⟩, by simp only; omega, [some 0, some 1, some 2, some 6, some 4], _, rfl, ?_⟩
      simp [AllEq, lk, std, tattrs_app, ho1]
    | false =>
      have e1 := heq' a hoka
      rw [hgo' f a hoka] at hJ3 hJ4
      simp only [List.append_nil] at hJ3 hJ4
      have hoL : out.length ≤ 1000000 := by omega
      rw [e1, hJ4]
      subst hJ3
      clear en hJ2
      with_reducible refine cv3 (tpartsA ps) (runesA l) (tattrsA out) ?_
      repeat' first
        | (with_reducible refine And.intro (fun hx => absurd (hoka.symm.trans hx) (by decide)) (fun _ => ?_))
        | (with_reducible intro _)
      rw [if_pos trivial]
      with_reducible refine cv3 (tpartsA ps) (runesA l) (tattrsA out) ?_
      have en := hn.eq
      have hpl2 := tparts_len ps
      have hpl3 : (((tpartsA ps).length : Nat) : Int) = n := by omega
      refine ⟨c50, c53, fun h => absurd h (by simp [std]), fun h => ?_, fun h => ?_⟩
      · have h : b1 < n := by simpa [std, hpl3] using h
        rw [if_neg (by omega)]
        exact .pure rfl ⟨.inl rfl, .inl rfl, .inl rfl, .inl rfl, .inl rfl, .inl rfl, trivial⟩
      · have h : ¬ b1 < n := by simpa [std, hpl3] using h
        rw [if_pos (by omega)]
        simp only
        obtain ⟨x, hx⟩ : ∃ x, x = q.to - q.from_ := ⟨_, rfl⟩
        obtain ⟨y, hy⟩ : ∃ y, y = o.to - o.from_ := ⟨_, rfl⟩
        rw [← hx, ← hy]
        have hx' := hx.symm
        have hy' := hy.symm
        with_reducible repeat' first | refine aU (zA hx' <| zA hy' hol) ?_ | refine And.intro ?_ ?_ | (intro hb; try simp [std, S1, hx', hy', hol] at hb)
        all_goals
          refine .pure rfl ⟨.inl rfl, .inl rfl, .inl rfl, .inl rfl, .inl ?_, .inl ?_, trivial⟩
        all_goals
          clear cP c22 c50 c53 cA hgt heq' hone hgo hgo' hx hy hats hae en hpl3 hpl2
        all_goals first
          | (simp [*, std, AV.cells, intOf, lstOf]; done)
          | (simp_all [std, AV.cells, intOf, lstOf]; done)
          | trace_state
end Go.Proofs.YtcmjijpofkoogaaGreat
