/- Lemmas, conditions told -/
import Derived.Test.YtcmjijpofkoogaaGreatG11
import Derived.Test.YtcmjijpofkoogaaGreatG12
import Derived.Test.YtcmjijpofkoogaaGreatG10
import Derived.Laws.StructEq
import Derived.Test.YtcmjijpofkoogaaGreatG01
import Derived.WideShapes
import Derived.Test.YtcmjijpofkoogaaGreatG02
import Derived.Test.YtcmjijpofkoogaaGreatG04
set_option linter.unusedSimpArgs false
set_option linter.unusedVariables false
namespace Go.Proofs.YtcmjijpofkoogaaGreat
open Go.RowKit Go.Lib
structure TPart where
  kind : Int
  from_ : Int
  to : Int
  deriving Inhabited
def TPart.av (x : TPart) : AV := .agg [.val (.int .i64 x.kind), .val (.int .i64 x.from_), .val (.int .i64 x.to)]
def tpartsA (l : List TPart) : List AV := l.map TPart.av
def tpart0 : TPart := ⟨0, 0, 0⟩
theorem tparts_len (l : List TPart) : (tpartsA l).length = l.length := by simp [tpartsA]
theorem tparts_app (a b : List TPart) : tpartsA (a ++ b) = tpartsA a ++ tpartsA b := by simp [tpartsA]
theorem tparts_one (x : TPart) : tpartsA [x] = [.agg [.val (.int .i64 x.kind), .val (.int .i64 x.from_), .val (.int .i64 x.to)]] := rfl
theorem tparts_at {l : List TPart} {i : Int} (h0 : 0 ≤ i) (h1 : i < l.length) : (tpartsA l)[i.toNat]?.getD .dead = (l[i.toNat]?.getD tpart0).av := getA TPart.av h0 h1 tpart0
def takesOk (l : List TPart) (a : Nat) (ks : List Int) : Bool := ((l.drop a).take ks.length).map TPart.kind == ks
theorem takes_iff {l : List TPart} {a : Nat} {ks : List Int} (ha : a ≤ l.length) : takesOk l a ks = true ↔ (a + ks.length ≤ l.length ∧ ∀ j, j < ks.length → (l[a + j]?.getD tpart0).kind = ks[j]?.getD 0) := by
  have at_ : a + ks.length ≤ l.length → ∀ j, j < ks.length → (((l.drop a).take ks.length).map TPart.kind)[j]? = some (l[a + j]?.getD tpart0).kind := fun h j hj => by
    have h1 : a + j < l.length := by omega
    simp [List.getElem?_take, List.getElem?_drop, hj, h1]
  rw [takesOk, beq_iff_eq]
  constructor
  · intro h
    have h1 : a + ks.length ≤ l.length := by
      have := congrArg List.length h
      simp only [List.length_map, List.length_take, List.length_drop] at this
      omega
    refine ⟨h1, fun j hj => ?_⟩
    have h2 := at_ h1 j hj
    rw [h] at h2
    rw [h2]; rfl
  · rintro ⟨h1, h2⟩
    refine List.ext_getElem? fun j => ?_
    by_cases hj : j < ks.length
    · rw [at_ h1 j hj, h2 j hj, List.getElem?_eq_getElem hj]; rfl
    · rw [List.getElem?_eq_none (by simp; omega), List.getElem?_eq_none (by omega)]
set_option maxRecDepth 20000 in
set_option maxHeartbeats 2000000 in
theorem takes_any (l : List TPart) (hl : l.length ≤ 1000000000) (a : Int) (h0 : 0 ≤ a) (h1 : a ≤ l.length) (ks : List Int) (hk : ks.length ≤ 10) (res : AV) (a' : Int)
    (hhit : takesOk l a.toNat ks = true → res = .slc 3 (tpartsA ((l.drop a.toNat).take ks.length)) ∧ a' = a + ks.length) (hmiss : takesOk l a.toNat ks = false → res = .val (.slice none 0 0) ∧ a' = a) :
    BCall Tryz.prog 46 [.box 0 0, .slc 1 (intsA ks)] [.box [.slc 3 (tpartsA l), .val (.int .i64 a)]] res [.box [.slc 3 (tpartsA l), .val (.int .i64 a')]] := by
  obtain ⟨n, hn⟩ := exLen l
  obtain ⟨m, hm⟩ := exLen ks
  refine fnN (cs0) Tryz.func46 rfl fun _ _ => ?_
  have hpl := tparts_len l
  have hkl := ints_len ks
  have hiff := takes_iff (l := l) (a := a.toNat) (ks := ks) (by omega)
  with_reducible refine cv2 (tpartsA l) (intsA ks) ?_
  have en := hn.eq
  have em := hm.eq
  replace h1 : a ≤ (l.length : Int) := h1
  refine ⟨?_, fun h => ?_, fun h => ?_⟩
  · refine (inR64 _).2 ?_
    simp only [std, hpl]; omega
  · have h : (l.length : Int) - a < ks.length := by simpa [std, hpl, hkl] using h
    obtain ⟨rfl, rfl⟩ := hmiss (by
      rw [Bool.eq_false_iff]; intro h2
      have := (hiff.1 h2).1
      omega)
    exact ⟨[some 0], .val (.slice none 0 0), _, rfl, rfl, Nat.le_refl _, rfl, by simp [AllEq], .inl rfl⟩
  · have h : ¬ (l.length : Int) - a < ks.length := by simpa [std, hpl, hkl] using h
    refine loopN (cs0) (Int) (fun i => ⟨[(0, .box 0 0), (1, .slc 1 (intsA ks)), (21, .slc 1 (intsA ks)), (22, .val (.int .i64 m)), (23, .val (.int .i64 i))], [.box [.slc 3 (tpartsA l), .val (.int .i64 a)]]⟩) (fun i => 0 ≤ i ∧ i ≤ m ∧ ∀ j : Nat, (j : Int) < i → (l[a.toNat + j]?.getD tpart0).kind = ks[j]?.getD 0) (fun i => (m - i).toNat) 0 ?_ ?_ ?_
    · exact ⟨by omega, by omega, fun j hj => by omega⟩
    · refine ⟨[some 0], _, rfl, ?_⟩
      simp [AllEq, lk, std, hkl, em]
    · have hmn : a + m ≤ n := by omega
      clear h
      rintro i ⟨hi0, him, hi⟩
      rcases Int.lt_or_eq_of_le him with hlt | heq
      · have hat := ints_at (l := ks) hi0 (by omega)
        have hap := tparts_at (l := l) (i := a + i) (by omega) (by omega)
        have hai : (a + i).toNat = a.toNat + i.toNat := by omega
        rw [hai] at hap
        have hi' : ∀ j : Nat, j < i.toNat → (l[a.toNat + j]?.getD tpart0).kind = ks[j]?.getD 0 := fun j hj => hi j (by omega)
        clear hi
        clear en em
        with_reducible refine cv2 (tpartsA l) (intsA ks) ?_
        have en := hn.eq
        have em := hm.eq
        have hib : a + i < (l.length : Int) := by omega
        repeat' first
          | (with_reducible refine And.intro (fun hx => absurd hx (by first | (try simp [std, S1, hat, hap, hai, TPart.av, hpl, hkl, hlt, hi0, hib]) <;> omega | omega)) (fun _ => ?_))
          | (with_reducible refine And.intro (fun _ => ?_) (fun hx => absurd hx (by first | (try simp [std, S1, hat, hap, hai, TPart.av, hpl, hkl, hlt, hi0, hib]) <;> omega | omega)))
          | (with_reducible refine And.intro (by first | (try simp [std, S1, hat, hap, hai, TPart.av, hpl, hkl, hlt, hi0, hib]) <;> omega | omega) ?_)
          | (with_reducible refine And.intro ?_ ?_)
          | (with_reducible intro hb)
        · have hne : ¬ (l[a.toNat + i.toNat]?.getD tpart0).kind = ks[i.toNat]?.getD 0 := by
            simpa [std, hat, hap, hai, TPart.av, AV.cells, intOf] using hb
          obtain ⟨rfl, rfl⟩ := hmiss (by
            rw [Bool.eq_false_iff]; intro h2
            exact hne ((hiff.1 h2).2 i.toNat (by omega)))
          with_reducible refine cv2 (tpartsA l) (intsA ks) ?_
          exact ⟨[some 0], .val (.slice none 0 0), _, rfl, rfl, Nat.le_refl _, rfl, by simp [AllEq], .inl rfl⟩
        · have he : (l[a.toNat + i.toNat]?.getD tpart0).kind = ks[i.toNat]?.getD 0 := by
            simpa [std, hat, hap, hai, TPart.av, AV.cells, intOf] using hb
          refine ⟨i + 1, ⟨by omega, by omega, fun j hj => ?_⟩, by omega, [some 0], _, rfl, by simp [AllEq, lk, std]⟩
          have hj : (j : Int) < i + 1 := hj
          by_cases hji : j < i.toNat
          · exact hi' j hji
          · obtain rfl : j = i.toNat := by omega
            exact he
      · obtain ⟨rfl, rfl⟩ := hhit (hiff.2 ⟨by omega, fun j hj => hi j (by omega)⟩)
        have hcut : std.cut (tpartsA l) a (a + m) = tpartsA ((l.drop a.toNat).take ks.length) := by
          show ((tpartsA l).drop a.toNat).take (a + m - a).toNat = _
          rw [show (a + m - a).toNat = ks.length by omega, tpartsA, tpartsA, List.map_take, List.map_drop]
        have hml : std.len (intsA ks) = m := by simp only [std, hkl, em]
        have hka : a + (ks.length : Int) = a + m := by omega
        rw [hka, ← hcut]
        clear en em hi
        with_reducible refine cv2 (tpartsA l) (intsA ks) ?_
        with_reducible repeat' first | refine aU heq ?_ | refine And.intro ?_ ?_ | intro hb
        rw [if_pos trivial]
        with_reducible refine cv2 (tpartsA l) (intsA ks) ?_
        have en := hn.eq
        have em := hm.eq
        repeat' first
          | (with_reducible refine And.intro (fun hx => absurd hx (by first | (try simp [std, S1, hml, hpl, hkl, ← em]) <;> omega | omega)) (fun _ => ?_))
          | (with_reducible refine And.intro (fun _ => ?_) (fun hx => absurd hx (by first | (try simp [std, S1, hml, hpl, hkl, ← em]) <;> omega | omega)))
          | (with_reducible refine And.intro (by first | (try simp [std, S1, hml, hpl, hkl, ← em]) <;> omega | omega) ?_)
          | (with_reducible refine And.intro ?_ ?_)
          | (with_reducible intro hb)
        have hadd : std.add a (std.len (intsA ks)) = a + m := by rw [hml]; rfl
        refine ⟨[some 0], .slc 3 (std.cut (tpartsA l) a (a + m)), _, rfl, rfl, Nat.le_refl _, rfl, ⟨?_, rfl, ?_, trivial⟩, .inl rfl⟩
        · show AV.slc 3 (std.cut (tpartsA l) a (std.add a (std.len (intsA ks)))) = _
          rw [hadd]
        · show AV.val (.int .i64 (std.add a (std.len (intsA ks)))) = _
          rw [hadd]
end Go.Proofs.YtcmjijpofkoogaaGreat
namespace Go.Proofs.YtcmjijpofkoogaaGreat
open Go.RowKit Go.Lib
theorem tvalF_le (l : List Int) : 0 ≤ tvalF l ∧ tvalF l ≤ l.length := by
  unfold tvalF
  split
  · cases h : (l.drop 1).findIdx? (· == l.getD 0 0) with
    | none => simp
    | some k =>
      have := (List.findIdx?_eq_some_iff_getElem.1 h).1
      simp at this
      simp only; omega
  · omega
theorem tpiece_n (l : List Int) (first : Bool) (h : l ≠ []) : 1 ≤ (tpieceF l first).2 ∧ (tpieceF l first).2 ≤ l.length := by
  have hp : 0 < l.length := List.length_pos_iff.2 h
  unfold tpieceF
  split
  · rename_i h1
    have := starts_fits2 l 0 _ (by omega) h1.2
    simp only [List.length_cons, List.length_nil] at this
    simp only; omega
  · split
    · simp only; omega
    · split
      · rename_i h1
        have : runF isSpace l 0 ≤ l.length := by
          rw [runF, if_neg (by omega)]
          have := (List.takeWhile_sublist isSpace (l := l.drop (0 : Int).toNat)).length_le
          simpa using this
        simp only; omega
      · split
        · rename_i h1
          have : leadF l 0 ≤ l.length := by
            unfold leadF
            split
            · omega
            · split
              · have := (List.takeWhile_sublist isNameChar (l := l.drop 0)).length_le
                simpa using this
              · omega
          simp only; omega
        · split
          · simp only; omega
          · split
            · have := tvalF_le l
              simp only; omega
            · split <;> (simp only; omega)
def partsGo (at_ : Int) (first : Bool) (r : List Int) : List TPart :=
  if h : r = [] then [] else ⟨(tpieceF r first).1, at_, at_ + (tpieceF r first).2⟩ :: partsGo (at_ + (tpieceF r first).2) false (r.drop (tpieceF r first).2.toNat)
termination_by r.length
decreasing_by
  have := tpiece_n r first h
  simp only [List.length_drop]; omega
def partsF (l : List Int) (from_ to : Int) : List TPart := partsGo from_ true ((l.take to.toNat).drop from_.toNat)
def pkA (xs : List AV) (b : Bool) : Int := (tpieceF (xs.map intOf) b).1
def pnA (xs : List AV) (b : Bool) : Int := (tpieceF (xs.map intOf) b).2
theorem runes_back (l : List Int) : (runesA l).map intOf = l := by
  induction l with
  | nil => rfl
  | cons x r ih => rw [runesA, List.map_cons, List.map_cons]; rw [runesA] at ih; rw [ih]; rfl
def csPa (pk pn : List AV → Bool → Int) : Nat → List AV → List Ob → Option (AV × List Ob) := fun f args _ => match f, args with
  | 68, [.slc 1 xs, .val (.bool b)] => some (.tup [.val (.int .i64 (pk xs b)), .val (.int .i64 (pn xs b))], [])
  | _, _ => none
set_option maxRecDepth 20000 in
set_option maxHeartbeats 2000000 in
theorem Parts_b (l : List Int) (hl : l.length ≤ 1000000000) (from_ to : Int) (h0 : 0 ≤ from_) (h1 : from_ ≤ to) (h2 : to ≤ l.length) :
    BCall Tryz.prog 45 [.slc 1 (runesA l), .val (.int .i64 from_), .val (.int .i64 to)] [] (.slc 3 (tpartsA (partsF l from_ to))) [] := by
  obtain ⟨n, hn⟩ := exLen l
  have h2n : to ≤ n := by rw [hn.eq]; exact h2
  have hnb : n ≤ 1000000000 := by rw [hn.eq]; omega
  clear h2
  refine fnN (csPa pkA pnA) Tryz.func45 rfl fun _ _ => ?_
  with_reducible refine cv3 pkA pnA (runesA l) ?_
  have en := hn.eq
  have hrl := runes_len l
  have hrn : (((runesA l).length : Nat) : Int) = n := by omega
  with_reducible repeat' first | refine aU (zA hrn <| zA h0 <| zA h1 h2n) ?_ | refine And.intro ?_ ?_ | intro hb
  refine loopN (csPa pkA pnA) (List TPart × Int) (fun x => ⟨[(0, .slc 1 (runesA l)), (1, .val (.int .i64 from_)), (2, .val (.int .i64 to)), (7, .row 0 0), (8, .val (.int .i64 x.2))], [.row 47 3 false 0 (tpartsA x.1)]⟩) (fun x => from_ ≤ x.2 ∧ x.2 ≤ to ∧ x.1 ++ partsGo x.2 (decide (x.2 = from_)) ((l.take to.toNat).drop x.2.toNat) = partsF l from_ to ∧ x.1.length ≤ x.2.toNat) (fun x => (to - x.2).toNat) ([], from_) ?_ ?_ ?_
  · exact ⟨by omega, h1, by simp [partsF], by simp⟩
  · exact ⟨[none], _, rfl, by simp [AllEq, lk, tpartsA]⟩
  · rintro ⟨out, k⟩ ⟨hJ0, hJ1, hJ2, hJ3⟩
    simp only at hJ0 hJ1 hJ2 hJ3
    have hol := tparts_len out
    by_cases hk : k < to
    · obtain ⟨r, hr⟩ : ∃ r, r = (l.take to.toNat).drop k.toNat := ⟨_, rfl⟩
      have hrlen : r.length = to.toNat - k.toNat := by rw [hr, List.length_drop, List.length_take]; omega
      have hrne : r ≠ [] := by intro h; rw [h] at hrlen; simp at hrlen; omega
      have hcut : std.cut (runesA l) k to = runesA r := by
        show ((runesA l).drop k.toNat).take (to - k).toNat = _
        rw [hr, runesA, runesA, List.map_drop, List.map_take, List.drop_take]
        congr 1; omega
      obtain ⟨first, hf⟩ : ∃ b, b = decide (k = from_) := ⟨_, rfl⟩
      have heq : std.eqI k from_ = first := by
        rw [hf]
        show (k == from_) = decide (k = from_)
        by_cases h : k = from_ <;> simp [h]
      have hpn := tpiece_n r first hrne
      have hb := piece_b r hrne (by omega) first
      obtain ⟨K, hK⟩ : ∃ K, K = (tpieceF r first).1 := ⟨_, rfl⟩
      obtain ⟨N, hN⟩ : ∃ N, N = (tpieceF r first).2 := ⟨_, rfl⟩
      have hpk : pkA (std.cut (runesA l) k to) (std.eqI k from_) = K := by rw [hcut, heq, pkA, runes_back, hK]
      have hpnn : pnA (std.cut (runesA l) k to) (std.eqI k from_) = N := by rw [hcut, heq, pnA, runes_back, hN]
      rw [← hK, ← hN] at hb
      have hb : BCall Tryz.prog 68 [.slc 1 (std.cut (runesA l) k to), .val (.bool (std.eqI k from_))] [] (.tup [.val (.int .i64 (pkA (std.cut (runesA l) k to) (std.eqI k from_))), .val (.int .i64 (pnA (std.cut (runesA l) k to) (std.eqI k from_)))]) [] := by
        rw [hpk, hpnn, hcut, heq]; exact hb
      have hG : out ++ [⟨K, k, k + N⟩] ++ partsGo (k + N) (decide (k + N = from_)) ((l.take to.toNat).drop (k + N).toNat) = partsF l from_ to := by
        have e1 : decide (k + N = from_) = false := by simp; omega
        have e2 : (l.take to.toNat).drop (k + N).toNat = r.drop N.toNat := by rw [hr, List.drop_drop]; congr 1; omega
        have e3 : partsGo k first r = ⟨K, k, k + N⟩ :: partsGo (k + N) false (r.drop N.toNat) := by
          conv => lhs; rw [partsGo]
          rw [dif_neg hrne, ← hK, ← hN]
        rw [e1, e2, ← hJ2, ← hf, ← hr, e3]; simp
      have hN1 : 1 ≤ N := by rw [hN]; exact hpn.1
      have hN2 : k + N ≤ to := by rw [hN]; omega
      clear hpn hf en
      with_reducible refine cv4 pkA pnA (runesA l) (tpartsA out) ?_
      have en := hn.eq
      have hadd : std.add k (pnA (std.cut (runesA l) k to) (std.eqI k from_)) = k + N := by rw [hpnn]; rfl
      have hin : std.inR .i64 (std.add k (pnA (std.cut (runesA l) k to) (std.eqI k from_))) := by
        rw [hadd]; exact (inR64 _).2 (by omega)
      refine ⟨fun _ => ⟨?_, hb, hin, ?_, hin, (out ++ [⟨K, k, k + N⟩], k + N), ⟨by simp only; omega, hN2, hG, by simp only [List.length_append, List.length_singleton]; omega⟩, by simp only; omega, [some 0], _, rfl, ?_⟩, fun h => ?_⟩
      · simp only [std, hrl]; omega
      · simp only [std, hol, List.length_singleton]; omega
      · refine ⟨rfl, rfl, rfl, rfl, ?_, ?_, trivial⟩
        · show AV.val (.int .i64 (std.add k (pnA (std.cut (runesA l) k to) (std.eqI k from_)))) = _
          rw [hadd]
        · show AV.slc 0 (std.app (tpartsA out) [.agg [.val (.int .i64 (pkA (std.cut (runesA l) k to) (std.eqI k from_))), .val (.int .i64 k), .val (.int .i64 (std.add k (pnA (std.cut (runesA l) k to) (std.eqI k from_))))]]) = _
          rw [hadd, hpk, tparts_app, tparts_one]; rfl
      · simp [std] at h; omega
    · have hG : out = partsF l from_ to := by
        have : (l.take to.toNat).drop k.toNat = [] := List.drop_eq_nil_of_le (by rw [List.length_take]; omega)
        rw [← hJ2, this, partsGo, dif_pos rfl, List.append_nil]
      clear en
      with_reducible refine cv4 pkA pnA (runesA l) (tpartsA out) ?_
      with_reducible repeat' first | refine aU hk ?_ | refine And.intro ?_ ?_ | intro hb
      rw [if_pos trivial]
      with_reducible refine cv4 pkA pnA (runesA l) (tpartsA out) ?_
      exact .pure rfl (.inl (by rw [hG]))
end Go.Proofs.YtcmjijpofkoogaaGreat
namespace Go.Proofs.YtcmjijpofkoogaaGreat
open Go.RowKit Go.Lib
end Go.Proofs.YtcmjijpofkoogaaGreat
namespace Go.Proofs.YtcmjijpofkoogaaGreat
open Go.RowKit Go.Lib
inductive Cur where
  | root (n : Int)
  | kid (n f k : Int) (up : Cur)
  deriving Inhabited
def Cur.n : Cur → Int
  | .root n => n
  | .kid n _ _ _ => n
def Cur.f : Cur → Int
  | .root _ => 0
  | .kid _ f _ _ => f
def Cur.k : Cur → Int
  | .root _ => 0
  | .kid _ _ k _ => k
def upO (N : List AV) : Cur → AV
  | .root _ => .val (.pointer none)
  | .kid _ _ _ up => .ref [.ref [.slc 6 N], .val (.int .i64 up.n), .val (.int .i64 up.f), .val (.int .i64 up.k), .opt (upO N up)]
def Cur.cs (N : List AV) (c : Cur) : List AV := [.ref [.slc 6 N], .val (.int .i64 c.n), .val (.int .i64 c.f), .val (.int .i64 c.k), .opt (upO N c)]
def kidsAt (l : List Node) (c : Cur) : List Int := (nodeAt l c.n).kids
def downC (l : List Node) (c : Cur) (k : Int) : Cur := .kid ((kidsAt l c)[k.toNat]?.getD 0) (c.f + wsum l ((kidsAt l c).take k.toNat)) k c
def toC (l : List Node) : Cur → List Int → Option Cur
  | c, [] => some c
  | c, k :: r => if 0 ≤ k ∧ k < (kidsAt l c).length then toC l (downC l c k) r else none
structure CurOk (l : List Node) (c : Cur) : Prop where
  n : (kidsAt l c).length ≤ 1000000
  s : wsum l (kidsAt l c) ≤ 2147483647
  f0 : 0 ≤ c.f
  f1 : c.f ≤ 2147483647
end Go.Proofs.YtcmjijpofkoogaaGreat
namespace Go.Proofs.YtcmjijpofkoogaaGreat
open Go.RowKit Go.Lib
end Go.Proofs.YtcmjijpofkoogaaGreat
namespace Go.Proofs.YtcmjijpofkoogaaGreat
open Go.RowKit Go.Lib
section
variable {P : Program} {ty : Tys}
end
end Go.Proofs.YtcmjijpofkoogaaGreat
namespace Go.Proofs.YtcmjijpofkoogaaGreat
open Go.RowKit Go.Lib
def gl (w : World) : Gh := ⟨fun b _ => b < w.heap.size, fun _ => none, fun _ => 0, fun _ => false⟩
theorem mem_law (w : World) : Mem w (gl w) [] :=
  ⟨(fun id cs h => by simp at h), (fun id cs h => by simp at h), (fun id y h => by simp at h), (fun b id h => by cases h), (fun b o h => ⟨h, fun id h2 => by cases h2⟩), (fun id et sz fz e xs h => by simp at h), (fun b h => by cases h), (fun b b' id h => by cases h)⟩
theorem BCall.law {P : Program} {f : Nat} {vs : List Value} {args : List AV} {res : Value} (h : BCall P f args [] (.val res) []) (w : World) (hL : ARelL w (gl w) [] vs args) :
    Calls P f vs.toArray w fun e w' => e = .returned res ∧ Below w.heap.size w w' :=
  (h.2 w (gl w) vs (mem_law w) hL).mono fun e w' ⟨v, g', k1, k2, k3, k4⟩ => by
    have hv : v = res := ARel.valEq (g := g') (w := w') (ob := []) k3
    subst hv
    exact ⟨k1, k4.os, k4.tape, k4.output, k4.size, fun b hb => k4.keep b hb rfl⟩
theorem argL_nil {w : World} {g : Gh} {ob : List Ob} : ARelL w g ob [] [] := ⟨rfl, fun j v x h => by simp at h⟩
theorem argL_cons {w : World} {g : Gh} {ob : List Ob} {v : Value} {x : AV} {vs : List Value} {xs : List AV} (h : ARel1 w g ob v x) (hr : ARelL w g ob vs xs) : ARelL w g ob (v :: vs) (x :: xs) := by
  refine ⟨by simp [hr.1], fun j u y hu hy => ?_⟩
  cases j with
  | zero =>
    obtain rfl : v = u := by simpa using hu
    obtain rfl : x = y := by simpa using hy
    exact h
  | succ j => exact hr.2 j u y (by simpa using hu) (by simpa using hy)
theorem arg_val {w : World} {v : Value} (h : v.oneCell' = true) : ARel1 w (gl w) [] v (.val v) := PRel.val v h
end Go.Proofs.YtcmjijpofkoogaaGreat
namespace Go.Proofs.YtcmjijpofkoogaaGreat
open Go.RowKit Go.Lib
end Go.Proofs.YtcmjijpofkoogaaGreat
namespace Go.Proofs.YtcmjijpofkoogaaGreat
open Go.RowKit Go.Lib
end Go.Proofs.YtcmjijpofkoogaaGreat
