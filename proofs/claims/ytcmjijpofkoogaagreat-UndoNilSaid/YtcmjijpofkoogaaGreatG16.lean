/- Lemmas, conditions told -/
import Derived.Test.YtcmjijpofkoogaaGreatG14
set_option linter.unusedSimpArgs false
set_option linter.unusedVariables false
namespace Go.Proofs.YtcmjijpofkoogaaGreat
open Go.RowKit Go.Lib
structure TAttr where
  name : TPart
  value : TPart
  all : TPart
  deriving Inhabited
def TAttr.cs (x : TAttr) : List AV := [.val (.int .i64 x.name.kind), .val (.int .i64 x.name.from_), .val (.int .i64 x.name.to), .val (.int .i64 x.value.kind), .val (.int .i64 x.value.from_), .val (.int .i64 x.value.to), .val (.int .i64 x.all.kind), .val (.int .i64 x.all.from_), .val (.int .i64 x.all.to)]
def TAttr.av (x : TAttr) : AV := .agg x.cs
def tattr0 : TAttr := ⟨tpart0, tpart0, tpart0⟩
def tattrsA (l : List TAttr) : List AV := l.map TAttr.av
def tkAt (l : List TPart) (a : Int) (k : Int) : Int := if takesOk l a.toNat [k] = true then a + 1 else a
def attrGo (l : List TPart) (a : Int) : Option (TAttr × Int) :=
  if takesOk l a.toNat [3] = true ∧ takesOk l (a + 1).toNat [2] = true then
    let b := tkAt l (a + 2) 3
    if takesOk l b.toNat [4] = true then
      let c := tkAt l (b + 1) 3
      if takesOk l c.toNat [5] = true then
        some (⟨l[(a + 1).toNat]?.getD tpart0, l[c.toNat]?.getD tpart0, ⟨7, (l[a.toNat]?.getD tpart0).from_, (l[c.toNat]?.getD tpart0).to⟩⟩, c + 1)
      else none
    else none
  else none
theorem takes_one (l : List TPart) (hl : l.length ≤ 1000000000) (a : Int) (h0 : 0 ≤ a) (h1 : a ≤ l.length) (k : Int) (h : takesOk l a.toNat [k] = true) :
    a < l.length ∧ BCall Tryz.prog 46 [.box 0 0, .slc 1 [.val (.int .i64 k)]] [.box [.slc 3 (tpartsA l), .val (.int .i64 a)]] (.slc 3 [.agg [.val (.int .i64 (l[a.toNat]?.getD tpart0).kind), .val (.int .i64 (l[a.toNat]?.getD tpart0).from_), .val (.int .i64 (l[a.toNat]?.getD tpart0).to)]]) [.box [.slc 3 (tpartsA l), .val (.int .i64 (a + 1))]] := by
  have h2 := (takes_iff (l := l) (a := a.toNat) (ks := [k]) (by omega)).1 h
  simp only [List.length_singleton] at h2
  refine ⟨by omega, takes_any l hl a h0 h1 [k] (by simp) _ _ (fun _ => ⟨?_, rfl⟩) (fun h' => by rw [h] at h'; cases h')⟩
  have hlt : a.toNat < l.length := by omega
  rw [List.drop_eq_getElem_cons hlt]
  have e : List.take 1 (l[a.toNat] :: l.drop (a.toNat + 1)) = [l[a.toNat]] := rfl
  rw [List.length_singleton, e, tparts_one, List.getElem?_eq_getElem hlt]; rfl
theorem takes_not (l : List TPart) (hl : l.length ≤ 1000000000) (a : Int) (h0 : 0 ≤ a) (h1 : a ≤ l.length) (ks : List Int) (hk : ks.length ≤ 10) (h : takesOk l a.toNat ks = false) :
    BCall Tryz.prog 46 [.box 0 0, .slc 1 (intsA ks)] [.box [.slc 3 (tpartsA l), .val (.int .i64 a)]] (.val (.slice none 0 0)) [.box [.slc 3 (tpartsA l), .val (.int .i64 a)]] :=
  takes_any l hl a h0 h1 ks hk _ _ (fun h' => by rw [h] at h'; cases h') (fun _ => ⟨rfl, rfl⟩)
theorem takes_fit (l : List TPart) (a : Int) (k : Int) (h0 : 0 ≤ a) (h1 : a ≤ l.length) : (tkAt l a k = a ∨ tkAt l a k = a + 1) ∧ tkAt l a k ≤ l.length ∧ True := by
  unfold tkAt
  split
  · rename_i h
    have := (takes_iff (l := l) (a := a.toNat) (ks := [k]) (by omega)).1 h
    simp only [List.length_singleton] at this
    exact ⟨.inr rfl, by omega, trivial⟩
  · exact ⟨.inl rfl, h1, trivial⟩
theorem takes_skip (l : List TPart) (hl : l.length ≤ 1000000000) (a : Int) (h0 : 0 ≤ a) (h1 : a ≤ l.length) (k : Int) :
    (tkAt l a k = a ∨ tkAt l a k = a + 1) ∧ tkAt l a k ≤ l.length ∧ BCall Tryz.prog 46 [.box 0 0, .slc 1 [.val (.int .i64 k)]] [.box [.slc 3 (tpartsA l), .val (.int .i64 a)]] .dead [.box [.slc 3 (tpartsA l), .val (.int .i64 (tkAt l a k))]] := by
  unfold tkAt
  cases h : takesOk l a.toNat [k] with
  | true =>
    obtain ⟨h2, h3⟩ := takes_one l hl a h0 h1 k h
    exact ⟨.inr rfl, by simp only [if_true]; omega, h3.forget⟩
  | false => exact ⟨.inl rfl, by simp only [Bool.false_eq_true, if_false]; omega, (takes_not l hl a h0 h1 [k] (by simp) h).forget⟩
def csT (r15 r18 r30 r36 : AV) (a15 a18 a27 a30 a33 a36 : Int) : Nat → List AV → List Ob → Option (AV × List Ob) := fun f _ ob => match ob with
  | [.box [ps, _]] => match f with
    | 1000015 => some (r15, [.box [ps, .val (.int .i64 a15)]])
    | 1000018 => some (r18, [.box [ps, .val (.int .i64 a18)]])
    | 1000027 => some (.dead, [.box [ps, .val (.int .i64 a27)]])
    | 1000030 => some (r30, [.box [ps, .val (.int .i64 a30)]])
    | 1000033 => some (.dead, [.box [ps, .val (.int .i64 a33)]])
    | 1000036 => some (r36, [.box [ps, .val (.int .i64 a36)]])
    | _ => none
  | _ => none
def attrRes (l : List TPart) (a : Int) : TAttr := match attrGo l a with | some x => x.1 | none => tattr0
def attrAt (l : List TPart) (a : Int) : Int := match attrGo l a with | some x => x.2 | none => a
def attrOk (l : List TPart) (a : Int) : Bool := (attrGo l a).isSome
def tattrF (x y z : TPart) : TAttr := ⟨x, z, ⟨7, y.from_, z.to⟩⟩
set_option maxRecDepth 20000 in
set_option maxHeartbeats 4000000 in
theorem attr_b (l : List TPart) (hl : l.length ≤ 1000000000) (a : Int) (h0 : 0 ≤ a) (h1 : a ≤ l.length) :
    BCall Tryz.prog 47 [.box 0 0] [.box [.slc 3 (tpartsA l), .val (.int .i64 a)]] (.tup [.agg (attrRes l a).cs, .val (.bool (attrOk l a))]) [.box [.slc 3 (tpartsA l), .val (.int .i64 (attrAt l a))]] := by
  have c3 : True := trivial
  have c4 : True := trivial
  have c5 : True := trivial
  have c6 : True := trivial
  obtain ⟨a1, ha1⟩ : ∃ a1, a1 = a + 1 := ⟨_, rfl⟩
  obtain ⟨a2, ha2⟩ : ∃ a2, a2 = a + 2 := ⟨_, rfl⟩
  obtain ⟨x, hx⟩ : ∃ x, x = l[a.toNat]?.getD tpart0 := ⟨_, rfl⟩
  obtain ⟨y, hy⟩ : ∃ y, y = l[a1.toNat]?.getD tpart0 := ⟨_, rfl⟩
  cases hs : takesOk l a.toNat [3] with
  | false =>
    have hR : attrGo l a = none := by simp [attrGo, hs]
    have e1 : attrRes l a = tattr0 := by rw [attrRes, hR]
    have e2 : attrOk l a = false := by rw [attrOk, hR]; rfl
    have e3 : attrAt l a = a := by rw [attrAt, hR]
    rw [e1, e2, e3]
    have c1 := takes_not l hl a h0 h1 [3] (by simp) hs
    cases hn : takesOk l a.toNat [2] with
    | false =>
      have c2 := takes_not l hl a h0 h1 [2] (by simp) hn
      clear hs hn hR
      refine fnN (csT (.val (.slice none 0 0)) (.val (.slice none 0 0)) .dead .dead a a 0 0 0 0) Tryz.func47 rfl fun _ _ => ?_
      with_reducible refine cv1 (tpartsA l) ?_
      repeat' first
        | exact c1
        | exact c2
        | exact c3
        | exact c4
        | exact c5
        | exact c6
        | (with_reducible refine And.intro (fun hx => absurd hx (by simp [std])) ?_)
        | (with_reducible refine And.intro ?_ ?_)
        | (with_reducible intro _)
      all_goals first
        | exact ⟨[some 0], .tup [.agg tattr0.cs, .val (.bool false)], _, rfl, rfl, Nat.le_refl _, rfl, by simp [AllEq, TAttr.cs, tattr0, tpart0], ⟨.inl rfl, .inl rfl, .inl rfl, .inl rfl, .inl rfl, .inl rfl, .inl rfl, .inl rfl, .inl rfl, trivial⟩, .inl rfl, trivial⟩
        | (simp [std, allP, AV.cells, intOf]; done)
    | true =>
      have c2 := (takes_one l hl a h0 h1 2 hn).2
      rw [← hx, ← ha1] at c2
      clear hs hn hR
      refine fnN (csT (.val (.slice none 0 0)) (.slc 3 [.agg [.val (.int .i64 x.kind), .val (.int .i64 x.from_), .val (.int .i64 x.to)]]) .dead .dead a a1 0 0 0 0) Tryz.func47 rfl fun _ _ => ?_
      with_reducible refine cv1 (tpartsA l) ?_
      repeat' first
        | exact c1
        | exact c2
        | exact c3
        | exact c4
        | exact c5
        | exact c6
        | (with_reducible refine And.intro (fun hx => absurd hx (by simp [std])) ?_)
        | (with_reducible refine And.intro ?_ ?_)
        | (with_reducible intro _)
      all_goals first
        | exact ⟨[some 0], .tup [.agg tattr0.cs, .val (.bool false)], _, rfl, rfl, Nat.le_refl _, rfl, by simp [AllEq, TAttr.cs, tattr0, tpart0], ⟨.inl rfl, .inl rfl, .inl rfl, .inl rfl, .inl rfl, .inl rfl, .inl rfl, .inl rfl, .inl rfl, trivial⟩, .inl rfl, trivial⟩
        | (simp [std, allP, AV.cells, intOf]; done)
  | true =>
    obtain ⟨hlt, c1⟩ := takes_one l hl a h0 h1 3 hs
    rw [← hx, ← ha1] at c1
    cases hn : takesOk l a1.toNat [2] with
    | false =>
      have hR : attrGo l a = none := by simp [attrGo, hs, ← ha1, hn]
      have e1 : attrRes l a = tattr0 := by rw [attrRes, hR]
      have e2 : attrOk l a = false := by rw [attrOk, hR]; rfl
      have e3 : attrAt l a = a := by rw [attrAt, hR]
      rw [e1, e2, e3]
      have c2 := takes_not l hl a1 (by omega) (by omega) [2] (by simp) hn
      clear hs hn hR
      refine fnN (csT (.slc 3 [.agg [.val (.int .i64 x.kind), .val (.int .i64 x.from_), .val (.int .i64 x.to)]]) (.val (.slice none 0 0)) .dead .dead a1 a1 0 0 0 0) Tryz.func47 rfl fun _ _ => ?_
      with_reducible refine cv1 (tpartsA l) ?_
      repeat' first
        | exact c1
        | exact c2
        | exact c3
        | exact c4
        | exact c5
        | exact c6
        | (with_reducible refine And.intro (fun hx => absurd hx (by simp [std])) ?_)
        | (with_reducible refine And.intro ?_ ?_)
        | (with_reducible intro _)
      all_goals first
        | exact ⟨[some 0], .tup [.agg tattr0.cs, .val (.bool false)], _, rfl, rfl, Nat.le_refl _, rfl, by simp [AllEq, TAttr.cs, tattr0, tpart0], ⟨.inl rfl, .inl rfl, .inl rfl, .inl rfl, .inl rfl, .inl rfl, .inl rfl, .inl rfl, .inl rfl, trivial⟩, .inl rfl, trivial⟩
        | (simp [std, allP, AV.cells, intOf]; done)
    | true =>
      obtain ⟨hlt2, c2⟩ := takes_one l hl a1 (by omega) (by omega) 2 hn
      have ea : a1 + 1 = a2 := by omega
      rw [← hy, ea] at c2
      obtain ⟨h3, h4, c3⟩ := takes_skip l hl a2 (by omega) (by omega) 3
      obtain ⟨b, hb⟩ : ∃ b, b = tkAt l a2 3 := ⟨_, rfl⟩
      rw [← hb] at h3 h4 c3
      obtain ⟨z, hz⟩ : ∃ z, z = l[b.toNat]?.getD tpart0 := ⟨_, rfl⟩
      obtain ⟨b1, hb1⟩ : ∃ b1, b1 = b + 1 := ⟨_, rfl⟩
      have hG : attrGo l a = if takesOk l b.toNat [4] = true then (if takesOk l (tkAt l b1 3).toNat [5] = true then some (tattrF y x (l[(tkAt l b1 3).toNat]?.getD tpart0), tkAt l b1 3 + 1) else none) else none := by
        simp only [attrGo, hs, ← ha1, hn, ← ha2, ← hb, ← hb1, and_self, if_true, tattrF, hy, hx]
      cases he : takesOk l b.toNat [4] with
      | false =>
        have hR : attrGo l a = none := by rw [hG, he]; rfl
        have e1 : attrRes l a = tattr0 := by rw [attrRes, hR]
        have e2 : attrOk l a = false := by rw [attrOk, hR]; rfl
        have e3 : attrAt l a = a := by rw [attrAt, hR]
        rw [e1, e2, e3]
        have c4 := takes_not l hl b (by omega) (by omega) [4] (by simp) he
        obtain ⟨h5, h6, c5⟩ := takes_skip l hl b (by omega) (by omega) 3
        obtain ⟨c, hc⟩ : ∃ c, c = tkAt l b 3 := ⟨_, rfl⟩
        rw [← hc] at h5 h6 c5
        cases hv : takesOk l c.toNat [5] with
        | false =>
          have c6 := takes_not l hl c (by omega) (by omega) [5] (by simp) hv
          clear hs hn hR hG he hv
          refine fnN (csT (.slc 3 [.agg [.val (.int .i64 x.kind), .val (.int .i64 x.from_), .val (.int .i64 x.to)]]) (.slc 3 [.agg [.val (.int .i64 y.kind), .val (.int .i64 y.from_), .val (.int .i64 y.to)]]) (.val (.slice none 0 0)) (.val (.slice none 0 0)) a1 a2 b b c c) Tryz.func47 rfl fun _ _ => ?_
          with_reducible refine cv1 (tpartsA l) ?_
          repeat' first
            | exact c1
            | exact c2
            | exact c3
            | exact c4
            | exact c5
            | exact c6
            | (with_reducible refine And.intro (fun hx => absurd hx (by simp [std])) ?_)
            | (with_reducible refine And.intro ?_ ?_)
            | (with_reducible intro _)
          all_goals first
            | exact ⟨[some 0], .tup [.agg tattr0.cs, .val (.bool false)], _, rfl, rfl, Nat.le_refl _, rfl, by simp [AllEq, TAttr.cs, tattr0, tpart0], ⟨.inl rfl, .inl rfl, .inl rfl, .inl rfl, .inl rfl, .inl rfl, .inl rfl, .inl rfl, .inl rfl, trivial⟩, .inl rfl, trivial⟩
            | (simp [std, allP, AV.cells, intOf]; done)
        | true =>
          have c6 := (takes_one l hl c (by omega) (by omega) 5 hv).2
          obtain ⟨d, hd⟩ : ∃ d, d = c + 1 := ⟨_, rfl⟩
          obtain ⟨q, hq⟩ : ∃ q, q = l[c.toNat]?.getD tpart0 := ⟨_, rfl⟩
          rw [← hd, ← hq] at c6
          clear hs hn hR hG he hv
          refine fnN (csT (.slc 3 [.agg [.val (.int .i64 x.kind), .val (.int .i64 x.from_), .val (.int .i64 x.to)]]) (.slc 3 [.agg [.val (.int .i64 y.kind), .val (.int .i64 y.from_), .val (.int .i64 y.to)]]) (.val (.slice none 0 0)) (.slc 3 [.agg [.val (.int .i64 q.kind), .val (.int .i64 q.from_), .val (.int .i64 q.to)]]) a1 a2 b b c d) Tryz.func47 rfl fun _ _ => ?_
          with_reducible refine cv1 (tpartsA l) ?_
          repeat' first
            | exact c1
            | exact c2
            | exact c3
            | exact c4
            | exact c5
            | exact c6
            | (with_reducible refine And.intro (fun hx => absurd hx (by simp [std])) ?_)
            | (with_reducible refine And.intro ?_ ?_)
            | (with_reducible intro _)
          all_goals first
            | exact ⟨[some 0], .tup [.agg tattr0.cs, .val (.bool false)], _, rfl, rfl, Nat.le_refl _, rfl, by simp [AllEq, TAttr.cs, tattr0, tpart0], ⟨.inl rfl, .inl rfl, .inl rfl, .inl rfl, .inl rfl, .inl rfl, .inl rfl, .inl rfl, .inl rfl, trivial⟩, .inl rfl, trivial⟩
            | (simp [std, allP, AV.cells, intOf]; done)
      | true =>
        obtain ⟨hlt3, c4⟩ := takes_one l hl b (by omega) (by omega) 4 he
        rw [← hb1, ← hz] at c4
        obtain ⟨h5, h6, c5⟩ := takes_skip l hl b1 (by omega) (by omega) 3
        obtain ⟨c, hc⟩ : ∃ c, c = tkAt l b1 3 := ⟨_, rfl⟩
        rw [← hc] at h5 h6 c5 hG
        cases hv : takesOk l c.toNat [5] with
        | false =>
          have hR : attrGo l a = none := by rw [hG, he, hv]; rfl
          have e1 : attrRes l a = tattr0 := by rw [attrRes, hR]
          have e2 : attrOk l a = false := by rw [attrOk, hR]; rfl
          have e3 : attrAt l a = a := by rw [attrAt, hR]
          rw [e1, e2, e3]
          have c6 := takes_not l hl c (by omega) (by omega) [5] (by simp) hv
          clear hs hn hR hG he hv
          refine fnN (csT (.slc 3 [.agg [.val (.int .i64 x.kind), .val (.int .i64 x.from_), .val (.int .i64 x.to)]]) (.slc 3 [.agg [.val (.int .i64 y.kind), .val (.int .i64 y.from_), .val (.int .i64 y.to)]]) (.slc 3 [.agg [.val (.int .i64 z.kind), .val (.int .i64 z.from_), .val (.int .i64 z.to)]]) (.val (.slice none 0 0)) a1 a2 b b1 c c) Tryz.func47 rfl fun _ _ => ?_
          with_reducible refine cv1 (tpartsA l) ?_
          repeat' first
            | exact c1
            | exact c2
            | exact c3
            | exact c4
            | exact c5
            | exact c6
            | (with_reducible refine And.intro (fun hx => absurd hx (by simp [std])) ?_)
            | (with_reducible refine And.intro ?_ ?_)
            | (with_reducible intro _)
          all_goals first
            | exact ⟨[some 0], .tup [.agg tattr0.cs, .val (.bool false)], _, rfl, rfl, Nat.le_refl _, rfl, by simp [AllEq, TAttr.cs, tattr0, tpart0], ⟨.inl rfl, .inl rfl, .inl rfl, .inl rfl, .inl rfl, .inl rfl, .inl rfl, .inl rfl, .inl rfl, trivial⟩, .inl rfl, trivial⟩
            | (simp [std, allP, AV.cells, intOf]; done)
        | true =>
          have c6 := (takes_one l hl c (by omega) (by omega) 5 hv).2
          obtain ⟨d, hd⟩ : ∃ d, d = c + 1 := ⟨_, rfl⟩
          obtain ⟨q, hq⟩ : ∃ q, q = l[c.toNat]?.getD tpart0 := ⟨_, rfl⟩
          have hR : attrGo l a = some (tattrF y x q, d) := by rw [hG, he, hv, hq, hd]; rfl
          have e1 : attrRes l a = tattrF y x q := by rw [attrRes, hR]
          have e2 : attrOk l a = true := by rw [attrOk, hR]; rfl
          have e3 : attrAt l a = d := by rw [attrAt, hR]
          rw [e1, e2, e3]
          rw [← hd, ← hq] at c6
          clear hs hn hR hG he hv
          refine fnN (csT (.slc 3 [.agg [.val (.int .i64 x.kind), .val (.int .i64 x.from_), .val (.int .i64 x.to)]]) (.slc 3 [.agg [.val (.int .i64 y.kind), .val (.int .i64 y.from_), .val (.int .i64 y.to)]]) (.slc 3 [.agg [.val (.int .i64 z.kind), .val (.int .i64 z.from_), .val (.int .i64 z.to)]]) (.slc 3 [.agg [.val (.int .i64 q.kind), .val (.int .i64 q.from_), .val (.int .i64 q.to)]]) a1 a2 b b1 c d) Tryz.func47 rfl fun _ _ => ?_
          with_reducible refine cv1 (tpartsA l) ?_
          repeat' first
            | exact c1
            | exact c2
            | exact c3
            | exact c4
            | exact c5
            | exact c6
            | (with_reducible refine And.intro (fun hx => absurd hx (by simp [std])) ?_)
            | (with_reducible refine And.intro ?_ ?_)
            | (with_reducible intro _)
          all_goals first
            | exact ⟨[some 0], .tup [.agg (tattrF y x q).cs, .val (.bool true)], _, rfl, rfl, Nat.le_refl _, rfl, by simp [AllEq, std, AV.cells, intOf, TAttr.cs, tattrF], ⟨.inl rfl, .inl rfl, .inl rfl, .inl rfl, .inl rfl, .inl rfl, .inl rfl, .inl rfl, .inl rfl, trivial⟩, .inl rfl, trivial⟩
            | (simp [std, allP, AV.cells, intOf]; done)
end Go.Proofs.YtcmjijpofkoogaaGreat
