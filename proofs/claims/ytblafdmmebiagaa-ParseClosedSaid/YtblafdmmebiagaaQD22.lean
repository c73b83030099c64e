/-
  Parts of the proof, joined: TgS. Conditions: as each theorem says.
-/
import Derived.Test.YtblafdmmebiagaaQD21
import Derived.Test.YtblafdmmebiagaaQD07
namespace Go.Proofs.Ytblafdmmebiagaa
open Go.RowKit Go.Lib
theorem tvalF_le (l : List Int) : 0 ≤ tvalF l ∧ tvalF l ≤ l.length := by
  unfold tvalF
  split
  · cases h : (l.drop 1).findIdx? (· == l.getD 0 0) with
    | none => simp
    | some k =>
      have := (List.findIdx?_eq_some_iff_getElem.1 h).1
      simp at this
      simp only; omega
  · omega
theorem tpiece_n (l : List Int) (first : Bool) (h : l ≠ []) : 1 ≤ (tpieceF l first).2 ∧ (tpieceF l first).2 ≤ l.length := by
  have hp : 0 < l.length := List.length_pos_iff.2 h
  unfold tpieceF
  split
  · rename_i h1
    have := starts_fits2 l 0 _ (by omega) h1.2
    simp only [List.length_cons, List.length_nil] at this
    simp only; omega
  · split
    · simp only; omega
    · split
      · rename_i h1
        have : runF isSpace l 0 ≤ l.length := by
          rw [runF, if_neg (by omega)]
          have := (List.takeWhile_sublist isSpace (l := l.drop (0 : Int).toNat)).length_le
          simpa using this
        simp only; omega
      · split
        · rename_i h1
          have : leadF l 0 ≤ l.length := by
            unfold leadF
            split
            · omega
            · split
              · have := (List.takeWhile_sublist isNameChar (l := l.drop 0)).length_le
                simpa using this
              · omega
          simp only; omega
        · split
          · simp only; omega
          · split
            · have := tvalF_le l
              simp only; omega
            · split <;> (simp only; omega)
def partsGo (at_ : Int) (first : Bool) (r : List Int) : List TPart :=
  if h : r = [] then [] else ⟨(tpieceF r first).1, at_, at_ + (tpieceF r first).2⟩ :: partsGo (at_ + (tpieceF r first).2) false (r.drop (tpieceF r first).2.toNat)
termination_by r.length
decreasing_by
  have := tpiece_n r first h
  simp only [List.length_drop]; omega
def partsF (l : List Int) (from_ to : Int) : List TPart := partsGo from_ true ((l.take to.toNat).drop from_.toNat)
def pkA (xs : List AV) (b : Bool) : Int := (tpieceF (xs.map intOf) b).1
def pnA (xs : List AV) (b : Bool) : Int := (tpieceF (xs.map intOf) b).2
theorem runes_back (l : List Int) : (runesA l).map intOf = l := by
  induction l with
  | nil => rfl
  | cons x r ih => rw [runesA, List.map_cons, List.map_cons]; rw [runesA] at ih; rw [ih]; rfl
def csPa (pk pn : List AV → Bool → Int) : Nat → List AV → List Ob → Option (AV × List Ob) := fun f args _ => match f, args with
  | 74, [.slc 1 xs, .val (.bool b)] => some (.tup [.val (.int .i64 (pk xs b)), .val (.int .i64 (pn xs b))], [])
  | _, _ => none
set_option maxRecDepth 20000 in
set_option maxHeartbeats 2000000 in
theorem Parts_b (l : List Int) (hl : l.length ≤ 1000000000) (from_ to : Int) (h0 : 0 ≤ from_) (h1 : from_ ≤ to) (h2 : to ≤ l.length) :
    BCall Try.prog 58 [.slc 1 (runesA l), .val (.int .i64 from_), .val (.int .i64 to)] [] (.slc 3 (tpartsA (partsF l from_ to))) [] := by
  obtain ⟨n, hn⟩ := exLen l
  have h2n : to ≤ n := by rw [hn.eq]; exact h2
  have hnb : n ≤ 1000000000 := by rw [hn.eq]; omega
  clear h2
  refine bcall_of (cs := csPa pkA pnA) (ord := fun _ => .nil) tyOk (by kernel_rfl) Try.func58 rfl (enters_of Try.func58 (by kernel_rfl) rfl) (Nat.le_of_ble_eq_true rfl) (by kernel_rfl) (by kernel_rfl) ?_
  intro w0 g0
  generalize hp : std = p
  generalize hpk : pkA = pk
  generalize hpn : pnA = pn
  generalize hrs : runesA l = rs
  generalize hT : aexec p tys (csPa pk pn) _ _ _ _ = T
  cbv at hT
  subst hT
  simp only [Tree.ok, RoundOk, Bool.false_eq_true, Bool.true_eq_false, false_implies, true_implies, and_true, true_and]
  subst hp hpk hpn hrs
  have en := hn.eq
  have hrl := runes_len l
  have hrn : (((runesA l).length : Nat) : Int) = n := by omega
  repeat' first
    | (with_reducible refine And.intro (fun hx => absurd hx (by (first | (simp [std, allP, AV.cells, intOf, booOf, lstOf, hrn, h0, h1, h2n]; done) | (simp [std, allP, AV.cells, intOf, booOf, lstOf, hrn, h0, h1, h2n]; omega) | (refine (inR64 _).2 ?_; (try simp [std, AV.cells, intOf, booOf, lstOf, hrn, h0, h1, h2n]); omega) | (refine (inR32 _).2 ?_; (try simp [std, AV.cells, intOf, booOf, lstOf, hrn, h0, h1, h2n]); omega) | omega))) (fun _ => ?_))
    | (with_reducible refine And.intro (fun _ => ?_) (fun hx => absurd hx (by (first | (simp [std, allP, AV.cells, intOf, booOf, lstOf, hrn, h0, h1, h2n]; done) | (simp [std, allP, AV.cells, intOf, booOf, lstOf, hrn, h0, h1, h2n]; omega) | (refine (inR64 _).2 ?_; (try simp [std, AV.cells, intOf, booOf, lstOf, hrn, h0, h1, h2n]); omega) | (refine (inR32 _).2 ?_; (try simp [std, AV.cells, intOf, booOf, lstOf, hrn, h0, h1, h2n]); omega) | omega))))
    | (with_reducible refine And.intro (by (first | (simp [std, allP, AV.cells, intOf, booOf, lstOf, hrn, h0, h1, h2n]; done) | (simp [std, allP, AV.cells, intOf, booOf, lstOf, hrn, h0, h1, h2n]; omega) | (refine (inR64 _).2 ?_; (try simp [std, AV.cells, intOf, booOf, lstOf, hrn, h0, h1, h2n]); omega) | (refine (inR32 _).2 ?_; (try simp [std, AV.cells, intOf, booOf, lstOf, hrn, h0, h1, h2n]); omega) | omega)) ?_)
    | (with_reducible refine And.intro ?_ ?_)
    | (with_reducible intro hb)
  refine loop_rule (cs := csPa pkA pnA) (ord := fun _ => .nil) tyOk (by kernel_rfl) (by kernel_rfl) (by kernel_rfl) (X := List TPart × Int) (fun x => ⟨[(0, .slc 1 (runesA l)), (1, .val (.int .i64 from_)), (2, .val (.int .i64 to)), (7, .row 0 0), (8, .val (.int .i64 x.2))], [.row 91 3 false 0 (tpartsA x.1)]⟩) (fun x => from_ ≤ x.2 ∧ x.2 ≤ to ∧ x.1 ++ partsGo x.2 (decide (x.2 = from_)) ((l.take to.toNat).drop x.2.toNat) = partsF l from_ to ∧ x.1.length ≤ x.2.toNat) (fun x => (to - x.2).toNat) ([], from_) ?_ ?_ ?_
  · exact ⟨by omega, h1, by simp [partsF], by simp⟩
  · exact ⟨[none], _, rfl, by simp [AllEq, lk, tpartsA]⟩
  · rintro ⟨out, k⟩ ⟨hJ0, hJ1, hJ2, hJ3⟩
    simp only at hJ0 hJ1 hJ2 hJ3
    have hol := tparts_len out
    by_cases hk : k < to
    · obtain ⟨r, hr⟩ : ∃ r, r = (l.take to.toNat).drop k.toNat := ⟨_, rfl⟩
      have hrlen : r.length = to.toNat - k.toNat := by rw [hr, List.length_drop, List.length_take]; omega
      have hrne : r ≠ [] := by intro h; rw [h] at hrlen; simp at hrlen; omega
      have hcut : std.cut (runesA l) k to = runesA r := by
        show ((runesA l).drop k.toNat).take (to - k).toNat = _
        rw [hr, runesA, runesA, List.map_drop, List.map_take, List.drop_take]
        congr 1; omega
      obtain ⟨first, hf⟩ : ∃ b, b = decide (k = from_) := ⟨_, rfl⟩
      have heq : std.eqI k from_ = first := by
        rw [hf]
        show (k == from_) = decide (k = from_)
        by_cases h : k = from_ <;> simp [h]
      have hpn := tpiece_n r first hrne
      have hb := piece_b r hrne (by omega) first
      obtain ⟨K, hK⟩ : ∃ K, K = (tpieceF r first).1 := ⟨_, rfl⟩
      obtain ⟨N, hN⟩ : ∃ N, N = (tpieceF r first).2 := ⟨_, rfl⟩
      have hpk : pkA (std.cut (runesA l) k to) (std.eqI k from_) = K := by rw [hcut, heq, pkA, runes_back, hK]
      have hpnn : pnA (std.cut (runesA l) k to) (std.eqI k from_) = N := by rw [hcut, heq, pnA, runes_back, hN]
      rw [← hK, ← hN] at hb
      have hb : BCall Try.prog 74 [.slc 1 (std.cut (runesA l) k to), .val (.bool (std.eqI k from_))] [] (.tup [.val (.int .i64 (pkA (std.cut (runesA l) k to) (std.eqI k from_))), .val (.int .i64 (pnA (std.cut (runesA l) k to) (std.eqI k from_)))]) [] := by
        rw [hpk, hpnn, hcut, heq]; exact hb
      have hG : out ++ [⟨K, k, k + N⟩] ++ partsGo (k + N) (decide (k + N = from_)) ((l.take to.toNat).drop (k + N).toNat) = partsF l from_ to := by
        have e1 : decide (k + N = from_) = false := by simp; omega
        have e2 : (l.take to.toNat).drop (k + N).toNat = r.drop N.toNat := by rw [hr, List.drop_drop]; congr 1; omega
        have e3 : partsGo k first r = ⟨K, k, k + N⟩ :: partsGo (k + N) false (r.drop N.toNat) := by
          conv => lhs; rw [partsGo]
          rw [dif_neg hrne, ← hK, ← hN]
        rw [e1, e2, ← hJ2, ← hf, ← hr, e3]; simp
      have hN1 : 1 ≤ N := by rw [hN]; exact hpn.1
      have hN2 : k + N ≤ to := by rw [hN]; omega
      clear hpn hf en
      generalize hp : std = p
      generalize hpk : pkA = pk
      generalize hpn : pnA = pn
      generalize hrs : runesA l = rs
      generalize ho : tpartsA out = o
      generalize hT : aexec p tys (csPa pk pn) _ _ _ _ = T
      cbv at hT
      subst hT
      simp only [Tree.ok, RoundOk, Bool.false_eq_true, Bool.true_eq_false, false_implies, true_implies, and_true, true_and]
      subst hp hpk hpn hrs ho
      have en := hn.eq
      have hadd : std.add k (pnA (std.cut (runesA l) k to) (std.eqI k from_)) = k + N := by rw [hpnn]; rfl
      have hin : std.inR .i64 (std.add k (pnA (std.cut (runesA l) k to) (std.eqI k from_))) := by
        rw [hadd]; exact (inR64 _).2 (by omega)
      refine ⟨fun _ => ⟨?_, hb, hin, ?_, hin, (out ++ [⟨K, k, k + N⟩], k + N), ⟨by simp only; omega, hN2, hG, by simp only [List.length_append, List.length_singleton]; omega⟩, by simp only; omega, [some 0], _, rfl, ?_⟩, fun h => ?_⟩
      · simp only [std, hrl]; omega
      · simp only [std, hol, List.length_singleton]; omega
      · refine ⟨rfl, rfl, rfl, rfl, ?_, ?_, trivial⟩
        · show AV.val (.int .i64 (std.add k (pnA (std.cut (runesA l) k to) (std.eqI k from_)))) = _
          rw [hadd]
        · show AV.slc 0 (std.app (tpartsA out) [.agg [.val (.int .i64 (pkA (std.cut (runesA l) k to) (std.eqI k from_))), .val (.int .i64 k), .val (.int .i64 (std.add k (pnA (std.cut (runesA l) k to) (std.eqI k from_))))]]) = _
          rw [hadd, hpk, tparts_app, tparts_one]; rfl
      · simp [std] at h; omega
    · have hG : out = partsF l from_ to := by
        have : (l.take to.toNat).drop k.toNat = [] := List.drop_eq_nil_of_le (by rw [List.length_take]; omega)
        rw [← hJ2, this, partsGo, dif_pos rfl, List.append_nil]
      clear en
      generalize hp : std = p
      generalize hpk : pkA = pk
      generalize hpn : pnA = pn
      generalize hrs : runesA l = rs
      generalize ho : tpartsA out = o
      generalize hT : aexec p tys (csPa pk pn) _ _ _ _ = T
      cbv at hT
      subst hT
      simp only [Tree.ok, RoundOk, Bool.false_eq_true, Bool.true_eq_false, false_implies, true_implies, and_true, true_and]
      subst hp hpk hpn hrs ho
      repeat' first
        | (with_reducible refine And.intro (fun hx => absurd hx (by (first | (simp [std, allP, AV.cells, intOf, booOf, lstOf, hk]; done) | (simp [std, allP, AV.cells, intOf, booOf, lstOf, hk]; omega) | (refine (inR64 _).2 ?_; (try simp [std, AV.cells, intOf, booOf, lstOf, hk]); omega) | (refine (inR32 _).2 ?_; (try simp [std, AV.cells, intOf, booOf, lstOf, hk]); omega) | omega))) (fun _ => ?_))
        | (with_reducible refine And.intro (fun _ => ?_) (fun hx => absurd hx (by (first | (simp [std, allP, AV.cells, intOf, booOf, lstOf, hk]; done) | (simp [std, allP, AV.cells, intOf, booOf, lstOf, hk]; omega) | (refine (inR64 _).2 ?_; (try simp [std, AV.cells, intOf, booOf, lstOf, hk]); omega) | (refine (inR32 _).2 ?_; (try simp [std, AV.cells, intOf, booOf, lstOf, hk]); omega) | omega))))
        | (with_reducible refine And.intro (by (first | (simp [std, allP, AV.cells, intOf, booOf, lstOf, hk]; done) | (simp [std, allP, AV.cells, intOf, booOf, lstOf, hk]; omega) | (refine (inR64 _).2 ?_; (try simp [std, AV.cells, intOf, booOf, lstOf, hk]); omega) | (refine (inR32 _).2 ?_; (try simp [std, AV.cells, intOf, booOf, lstOf, hk]); omega) | omega)) ?_)
        | (with_reducible refine And.intro ?_ ?_)
        | (with_reducible intro hb)
      rw [if_pos trivial]
      generalize hp : std = p
      generalize hpk : pkA = pk
      generalize hpn : pnA = pn
      generalize hrs : runesA l = rs
      generalize ho : tpartsA out = o
      generalize hT : aexec p tys (csPa pk pn) _ _ _ _ = T
      cbv at hT
      subst hT
      simp only [Tree.ok, RoundOk, Bool.false_eq_true, Bool.true_eq_false, false_implies, true_implies, and_true, true_and]
      subst hp hpk hpn hrs ho
      exact .pure rfl (.inl (by rw [hG]))
end Go.Proofs.Ytblafdmmebiagaa
