/- Lemmas, conditions told -/
import Derived.Test.YtaklahcbeldbhaaGreatDoorZR11
import Derived.Test.YtaklahcbeldbhaaGreatDoorZR10
import Derived.Test.YtaklahcbeldbhaaGreatDoorZR09
import Derived.Laws.StructEq
import Derived.Test.YtaklahcbeldbhaaGreatDoorZR01
import Derived.WideShapes
import Derived.Test.YtaklahcbeldbhaaGreatDoorZR04
import Derived.Laws.RangeAny
import Derived.Laws.RangeString
import Derived.Laws.BitsLemmas
set_option linter.unusedSimpArgs false
set_option linter.unusedVariables false
namespace Go.Proofs.YtaklahcbeldbhaaGreatDoor
open Go.RowKit Go.Lib
def tpieceF (l : List Int) (first : Bool) : Int × Int :=
  if first = true ∧ startsF l 0 [60, 47] = true then (1, 2)
  else if first = true ∧ l.getD 0 0 = 60 then (1, 1)
  else if 0 < (runF isSpace l 0 : Int) then (3, (runF isSpace l 0 : Int))
  else if 0 < (leadF l 0 : Int) then (2, (leadF l 0 : Int))
  else if l.getD 0 0 = 61 then (4, 1)
  else if 0 < tvalF l then (5, tvalF l)
  else if ((l.length : Int) = 2 ∧ startsF l 0 [47, 62] = true) ∨ ((l.length : Int) = 1 ∧ l.getD 0 0 = 62) then (6, (l.length : Int))
  else (7, 1)
def csP (run lead val : Int) (st : ByteArray → Bool) : Nat → List AV → List Ob → Option (AV × List Ob) := fun f args _ => match f, args with
  | 96, _ => some (.val (.int .i64 run), [])
  | 103, _ => some (.val (.int .i64 lead), [])
  | 104, _ => some (.val (.int .i64 val), [])
  | 105, [_, _, .val (.string s)] => some (.val (.bool (st s)), [])
  | _, _ => none
set_option maxRecDepth 20000 in
set_option maxHeartbeats 2000000 in
theorem piece_b (l : List Int) (hl : l ≠ []) (hmax : l.length ≤ 1000000000) (first : Bool) : BCall Tryz.prog 86 [.slc 1 (runesA l), .val (.bool first)] [] (.tup [.val (.int .i64 (tpieceF l first).1), .val (.int .i64 (tpieceF l first).2)]) [] := by
  obtain ⟨run, hrun⟩ : ∃ r : Int, r = (runF isSpace l 0 : Int) := ⟨_, rfl⟩
  obtain ⟨lead, hlead⟩ : ∃ r : Int, r = (leadF l 0 : Int) := ⟨_, rfl⟩
  obtain ⟨val, hval⟩ : ∃ r, r = tvalF l := ⟨_, rfl⟩
  obtain ⟨st, hst⟩ : ∃ st : ByteArray → Bool, st = fun s => startsF l 0 s.data.toList := ⟨_, rfl⟩
  have b1 : BCall Tryz.prog 96 [.slc 1 (runesA l), .val (.int .i64 0), .val (.func (.func 102) #[] #[])] [] (.val (.int .i64 run)) [] := by
    rw [hrun]; exact Run_b l 0 isSpace 102 eg_Space (fun w => Space_ok w)
  have b2 : BCall Tryz.prog 103 [.slc 1 (runesA l), .val (.int .i64 0)] [] (.val (.int .i64 lead)) [] := by
    rw [hlead]; exact Lead_b l 0 (by omega) (by omega)
  have b3 : BCall Tryz.prog 104 [.slc 1 (runesA l)] [] (.val (.int .i64 val)) [] := by
    rw [hval]; exact value_b l hl hmax
  have b4 : ∀ s : ByteArray, s.size ≤ 10 → BCall Tryz.prog 105 [.slc 1 (runesA l), .val (.int .i64 0), .val (.string s)] [] (.val (.bool (st s))) [] := fun s hs => by
    rw [hst]; exact Starts_b l hmax 0 (by omega) (by omega) s (by omega)
  obtain ⟨n, hn⟩ := exLen l
  have e1 : st ⟨#[60, 47]⟩ = startsF l 0 [60, 47] := by rw [hst]
  have e2 : st ⟨#[47, 62]⟩ = startsF l 0 [47, 62] := by rw [hst]
  have hP : tpieceF l first = ((if first = true ∧ st ⟨#[60, 47]⟩ = true then (1, 2)
      else if first = true ∧ l.getD 0 0 = 60 then (1, 1)
      else if 0 < run then (3, run)
      else if 0 < lead then (2, lead)
      else if l.getD 0 0 = 61 then (4, 1)
      else if 0 < val then (5, val)
      else if (n = 2 ∧ st ⟨#[47, 62]⟩ = true) ∨ (n = 1 ∧ l.getD 0 0 = 62) then (6, n)
      else (7, 1)) : Int × Int) := by
    rw [e1, e2, hrun, hlead, hval, hn.eq]; rfl
  rw [hP]
  clear hP e1 e2 hst hval hlead hrun
  have hpos : 0 < l.length := List.length_pos_iff.2 hl
  have a0 := runes_at (l := l) (i := 0) (Int.le_refl 0) (by omega)
  obtain ⟨r0, hr0⟩ : ∃ r0, r0 = l.getD 0 0 := ⟨_, rfl⟩
  have a0 : (runesA l)[0]?.getD .dead = .val (.int .i32 r0) := by rw [hr0, List.getD_eq_getElem?_getD]; exact a0
  have a1 : ∀ h : 0 < (runesA l).length, (runesA l)[0]'h = .val (.int .i32 r0) := fun h => by rw [List.getElem?_eq_getElem h] at a0; exact a0
  rw [← hr0]
  clear hr0
  cases first
  all_goals
    refine fnN (csP run lead val st) Tryz.func86 rfl fun _ _ => ?_
    with_reducible refine cv1 (runesA l) ?_
    have en := hn.eq
    have hlen := runes_len l
    have hpos' : 0 < (runesA l).length := by omega
    have hlen' : (((runesA l).length : Nat) : Int) = n := by omega
    have b5 := b4 ⟨#[60, 47]⟩ (by decide)
    have b6 := b4 ⟨#[47, 62]⟩ (by decide)
    with_reducible repeat' first | refine aU (zA a0 <| zA a1 <| zA hlen' <| zA hpos' <| zA b1 <| zA b2 <| zA b3 <| zA b5 b6) ?_ | refine And.intro ?_ ?_ | (intro hb; try simp [std, S1, a0, a1, hlen', hpos', b1, b2, b3, b5, b6] at hb)
    all_goals
      first
        | refine .pure rfl ⟨.inl ?_, .inl ?_, trivial⟩
          all_goals
            try simp only [std, hlen']
            clear en hlen hlen' hpos' hpos hn b1 b2 b3 b4 b5 b6
          all_goals first
            | (simp [*]; done)
            | ((repeat' split) <;> first | rfl | omega | (simp_all; done) | (simp_all; omega))
        | skip
  all_goals trace_state
end Go.Proofs.YtaklahcbeldbhaaGreatDoor
namespace Go.Proofs.YtaklahcbeldbhaaGreatDoor
open Go.RowKit Go.Lib
structure TPart where
  kind : Int
  from_ : Int
  to : Int
  deriving Inhabited
def TPart.av (x : TPart) : AV := .agg [.val (.int .i64 x.kind), .val (.int .i64 x.from_), .val (.int .i64 x.to)]
def tpartsA (l : List TPart) : List AV := l.map TPart.av
def tpart0 : TPart := ⟨0, 0, 0⟩
theorem tparts_len (l : List TPart) : (tpartsA l).length = l.length := by simp [tpartsA]
theorem tparts_app (a b : List TPart) : tpartsA (a ++ b) = tpartsA a ++ tpartsA b := by simp [tpartsA]
theorem tparts_one (x : TPart) : tpartsA [x] = [.agg [.val (.int .i64 x.kind), .val (.int .i64 x.from_), .val (.int .i64 x.to)]] := rfl
theorem tparts_at {l : List TPart} {i : Int} (h0 : 0 ≤ i) (h1 : i < l.length) : (tpartsA l)[i.toNat]?.getD .dead = (l[i.toNat]?.getD tpart0).av := getA TPart.av h0 h1 tpart0
def takesOk (l : List TPart) (a : Nat) (ks : List Int) : Bool := ((l.drop a).take ks.length).map TPart.kind == ks
theorem takes_iff {l : List TPart} {a : Nat} {ks : List Int} (ha : a ≤ l.length) : takesOk l a ks = true ↔ (a + ks.length ≤ l.length ∧ ∀ j, j < ks.length → (l[a + j]?.getD tpart0).kind = ks[j]?.getD 0) := by
  have at_ : a + ks.length ≤ l.length → ∀ j, j < ks.length → (((l.drop a).take ks.length).map TPart.kind)[j]? = some (l[a + j]?.getD tpart0).kind := fun h j hj => by
    have h1 : a + j < l.length := by omega
    simp [List.getElem?_take, List.getElem?_drop, hj, h1]
  rw [takesOk, beq_iff_eq]
  constructor
  · intro h
    have h1 : a + ks.length ≤ l.length := by
      have := congrArg List.length h
      simp only [List.length_map, List.length_take, List.length_drop] at this
      omega
    refine ⟨h1, fun j hj => ?_⟩
    have h2 := at_ h1 j hj
    rw [h] at h2
    rw [h2]; rfl
  · rintro ⟨h1, h2⟩
    refine List.ext_getElem? fun j => ?_
    by_cases hj : j < ks.length
    · rw [at_ h1 j hj, h2 j hj, List.getElem?_eq_getElem hj]; rfl
    · rw [List.getElem?_eq_none (by simp; omega), List.getElem?_eq_none (by omega)]
set_option maxRecDepth 20000 in
set_option maxHeartbeats 2000000 in
theorem takes_any (l : List TPart) (hl : l.length ≤ 1000000000) (a : Int) (h0 : 0 ≤ a) (h1 : a ≤ l.length) (ks : List Int) (hk : ks.length ≤ 10) (res : AV) (a' : Int)
    (hhit : takesOk l a.toNat ks = true → res = .slc 3 (tpartsA ((l.drop a.toNat).take ks.length)) ∧ a' = a + ks.length) (hmiss : takesOk l a.toNat ks = false → res = .val (.slice none 0 0) ∧ a' = a) :
    BCall Tryz.prog 59 [.box 0 0, .slc 1 (intsA ks)] [.box [.slc 3 (tpartsA l), .val (.int .i64 a)]] res [.box [.slc 3 (tpartsA l), .val (.int .i64 a')]] := by
  obtain ⟨n, hn⟩ := exLen l
  obtain ⟨m, hm⟩ := exLen ks
  refine fnN (cs0) Tryz.func59 rfl fun _ _ => ?_
  have hpl := tparts_len l
  have hkl := ints_len ks
  have hiff := takes_iff (l := l) (a := a.toNat) (ks := ks) (by omega)
  with_reducible refine cv2 (tpartsA l) (intsA ks) ?_
  have en := hn.eq
  have em := hm.eq
  replace h1 : a ≤ (l.length : Int) := h1
  refine ⟨?_, fun h => ?_, fun h => ?_⟩
  · refine (inR64 _).2 ?_
    simp only [std, hpl]; omega
  · have h : (l.length : Int) - a < ks.length := by simpa [std, hpl, hkl] using h
    obtain ⟨rfl, rfl⟩ := hmiss (by
      rw [Bool.eq_false_iff]; intro h2
      have := (hiff.1 h2).1
      omega)
    exact ⟨[some 0], .val (.slice none 0 0), _, rfl, rfl, Nat.le_refl _, rfl, by simp [AllEq], .inl rfl⟩
  · have h : ¬ (l.length : Int) - a < ks.length := by simpa [std, hpl, hkl] using h
    refine loopN (cs0) (Int) (fun i => ⟨[(0, .box 0 0), (1, .slc 1 (intsA ks)), (21, .slc 1 (intsA ks)), (22, .val (.int .i64 m)), (23, .val (.int .i64 i))], [.box [.slc 3 (tpartsA l), .val (.int .i64 a)]]⟩) (fun i => 0 ≤ i ∧ i ≤ m ∧ ∀ j : Nat, (j : Int) < i → (l[a.toNat + j]?.getD tpart0).kind = ks[j]?.getD 0) (fun i => (m - i).toNat) 0 ?_ ?_ ?_
    · exact ⟨by omega, by omega, fun j hj => by omega⟩
    · refine ⟨[some 0], _, rfl, ?_⟩
      simp [AllEq, lk, std, hkl, em]
    · have hmn : a + m ≤ n := by omega
      clear h
      rintro i ⟨hi0, him, hi⟩
      rcases Int.lt_or_eq_of_le him with hlt | heq
      · have hat := ints_at (l := ks) hi0 (by omega)
        have hap := tparts_at (l := l) (i := a + i) (by omega) (by omega)
        have hai : (a + i).toNat = a.toNat + i.toNat := by omega
        rw [hai] at hap
        have hi' : ∀ j : Nat, j < i.toNat → (l[a.toNat + j]?.getD tpart0).kind = ks[j]?.getD 0 := fun j hj => hi j (by omega)
        clear hi
        clear en em
        with_reducible refine cv2 (tpartsA l) (intsA ks) ?_
        have en := hn.eq
        have em := hm.eq
        have hib : a + i < (l.length : Int) := by omega
        repeat' first
          | (with_reducible refine And.intro (fun hx => absurd hx (by first | (try simp [std, S1, hat, hap, hai, TPart.av, hpl, hkl, hlt, hi0, hib]) <;> omega | omega)) (fun _ => ?_))
          | (with_reducible refine And.intro (fun _ => ?_) (fun hx => absurd hx (by first | (try simp [std, S1, hat, hap, hai, TPart.av, hpl, hkl, hlt, hi0, hib]) <;> omega | omega)))
          | (with_reducible refine And.intro (by first | (try simp [std, S1, hat, hap, hai, TPart.av, hpl, hkl, hlt, hi0, hib]) <;> omega | omega) ?_)
          | (with_reducible refine And.intro ?_ ?_)
          | (with_reducible intro hb)
        · have hne : ¬ (l[a.toNat + i.toNat]?.getD tpart0).kind = ks[i.toNat]?.getD 0 := by
            simpa [std, hat, hap, hai, TPart.av, AV.cells, RowKit.intOf] using hb
          obtain ⟨rfl, rfl⟩ := hmiss (by
            rw [Bool.eq_false_iff]; intro h2
            exact hne ((hiff.1 h2).2 i.toNat (by omega)))
          with_reducible refine cv2 (tpartsA l) (intsA ks) ?_
          exact ⟨[some 0], .val (.slice none 0 0), _, rfl, rfl, Nat.le_refl _, rfl, by simp [AllEq], .inl rfl⟩
        · have he : (l[a.toNat + i.toNat]?.getD tpart0).kind = ks[i.toNat]?.getD 0 := by
            simpa [std, hat, hap, hai, TPart.av, AV.cells, RowKit.intOf] using hb
          refine ⟨i + 1, ⟨by omega, by omega, fun j hj => ?_⟩, by omega, [some 0], _, rfl, by simp [AllEq, lk, std]⟩
          have hj : (j : Int) < i + 1 := hj
          by_cases hji : j < i.toNat
          · exact hi' j hji
          · obtain rfl : j = i.toNat := by omega
            exact he
      · obtain ⟨rfl, rfl⟩ := hhit (hiff.2 ⟨by omega, fun j hj => hi j (by omega)⟩)
        have hcut : std.cut (tpartsA l) a (a + m) = tpartsA ((l.drop a.toNat).take ks.length) := by
          show ((tpartsA l).drop a.toNat).take (a + m - a).toNat = _
          rw [show (a + m - a).toNat = ks.length by omega, tpartsA, tpartsA, List.map_take, List.map_drop]
        have hml : std.len (intsA ks) = m := by simp only [std, hkl, em]
        have hka : a + (ks.length : Int) = a + m := by omega
        rw [hka, ← hcut]
        clear en em hi
        with_reducible refine cv2 (tpartsA l) (intsA ks) ?_
        with_reducible repeat' first | refine aU heq ?_ | refine And.intro ?_ ?_ | intro hb
        rw [if_pos trivial]
        with_reducible refine cv2 (tpartsA l) (intsA ks) ?_
        have en := hn.eq
        have em := hm.eq
        repeat' first
          | (with_reducible refine And.intro (fun hx => absurd hx (by first | (try simp [std, S1, hml, hpl, hkl, ← em]) <;> omega | omega)) (fun _ => ?_))
          | (with_reducible refine And.intro (fun _ => ?_) (fun hx => absurd hx (by first | (try simp [std, S1, hml, hpl, hkl, ← em]) <;> omega | omega)))
          | (with_reducible refine And.intro (by first | (try simp [std, S1, hml, hpl, hkl, ← em]) <;> omega | omega) ?_)
          | (with_reducible refine And.intro ?_ ?_)
          | (with_reducible intro hb)
        have hadd : std.add a (std.len (intsA ks)) = a + m := by rw [hml]; rfl
        refine ⟨[some 0], .slc 3 (std.cut (tpartsA l) a (a + m)), _, rfl, rfl, Nat.le_refl _, rfl, ⟨?_, rfl, ?_, trivial⟩, .inl rfl⟩
        · show AV.slc 3 (std.cut (tpartsA l) a (std.add a (std.len (intsA ks)))) = _
          rw [hadd]
        · show AV.val (.int .i64 (std.add a (std.len (intsA ks)))) = _
          rw [hadd]
end Go.Proofs.YtaklahcbeldbhaaGreatDoor
namespace Go.Proofs.YtaklahcbeldbhaaGreatDoor
open Go.RowKit Go.Lib
theorem tvalF_le (l : List Int) : 0 ≤ tvalF l ∧ tvalF l ≤ l.length := by
  unfold tvalF
  split
  · cases h : (l.drop 1).findIdx? (· == l.getD 0 0) with
    | none => simp
    | some k =>
      have := (List.findIdx?_eq_some_iff_getElem.1 h).1
      simp at this
      simp only; omega
  · omega
theorem tpiece_n (l : List Int) (first : Bool) (h : l ≠ []) : 1 ≤ (tpieceF l first).2 ∧ (tpieceF l first).2 ≤ l.length := by
  have hp : 0 < l.length := List.length_pos_iff.2 h
  unfold tpieceF
  split
  · rename_i h1
    have := starts_fits2 l 0 _ (by omega) h1.2
    simp only [List.length_cons, List.length_nil] at this
    simp only; omega
  · split
    · simp only; omega
    · split
      · rename_i h1
        have : runF isSpace l 0 ≤ l.length := by
          rw [runF, if_neg (by omega)]
          have := (List.takeWhile_sublist isSpace (l := l.drop (0 : Int).toNat)).length_le
          simpa using this
        simp only; omega
      · split
        · rename_i h1
          have : leadF l 0 ≤ l.length := by
            unfold leadF
            split
            · omega
            · split
              · have := (List.takeWhile_sublist isNameChar (l := l.drop 0)).length_le
                simpa using this
              · omega
          simp only; omega
        · split
          · simp only; omega
          · split
            · have := tvalF_le l
              simp only; omega
            · split <;> (simp only; omega)
def partsGo (at_ : Int) (first : Bool) (r : List Int) : List TPart :=
  if h : r = [] then [] else ⟨(tpieceF r first).1, at_, at_ + (tpieceF r first).2⟩ :: partsGo (at_ + (tpieceF r first).2) false (r.drop (tpieceF r first).2.toNat)
termination_by r.length
decreasing_by
  have := tpiece_n r first h
  simp only [List.length_drop]; omega
def partsF (l : List Int) (from_ to : Int) : List TPart := partsGo from_ true ((l.take to.toNat).drop from_.toNat)
def pkA (xs : List AV) (b : Bool) : Int := (tpieceF (xs.map RowKit.intOf) b).1
def pnA (xs : List AV) (b : Bool) : Int := (tpieceF (xs.map RowKit.intOf) b).2
theorem runes_back (l : List Int) : (runesA l).map RowKit.intOf = l := by
  induction l with
  | nil => rfl
  | cons x r ih => rw [runesA, List.map_cons, List.map_cons]; rw [runesA] at ih; rw [ih]; rfl
def csPa (pk pn : List AV → Bool → Int) : Nat → List AV → List Ob → Option (AV × List Ob) := fun f args _ => match f, args with
  | 86, [.slc 1 xs, .val (.bool b)] => some (.tup [.val (.int .i64 (pk xs b)), .val (.int .i64 (pn xs b))], [])
  | _, _ => none
set_option maxRecDepth 20000 in
set_option maxHeartbeats 2000000 in
theorem Parts_b (l : List Int) (hl : l.length ≤ 1000000000) (from_ to : Int) (h0 : 0 ≤ from_) (h1 : from_ ≤ to) (h2 : to ≤ l.length) :
    BCall Tryz.prog 58 [.slc 1 (runesA l), .val (.int .i64 from_), .val (.int .i64 to)] [] (.slc 3 (tpartsA (partsF l from_ to))) [] := by
  obtain ⟨n, hn⟩ := exLen l
  have h2n : to ≤ n := by rw [hn.eq]; exact h2
  have hnb : n ≤ 1000000000 := by rw [hn.eq]; omega
  clear h2
  refine fnN (csPa pkA pnA) Tryz.func58 rfl fun _ _ => ?_
  with_reducible refine cv3 pkA pnA (runesA l) ?_
  have en := hn.eq
  have hrl := runes_len l
  have hrn : (((runesA l).length : Nat) : Int) = n := by omega
  with_reducible repeat' first | refine aU (zA hrn <| zA h0 <| zA h1 h2n) ?_ | refine And.intro ?_ ?_ | intro hb
  refine loopN (csPa pkA pnA) (List TPart × Int) (fun x => ⟨[(0, .slc 1 (runesA l)), (1, .val (.int .i64 from_)), (2, .val (.int .i64 to)), (7, .row 0 0), (8, .val (.int .i64 x.2))], [.row 85 3 false 0 (tpartsA x.1)]⟩) (fun x => from_ ≤ x.2 ∧ x.2 ≤ to ∧ x.1 ++ partsGo x.2 (decide (x.2 = from_)) ((l.take to.toNat).drop x.2.toNat) = partsF l from_ to ∧ x.1.length ≤ x.2.toNat) (fun x => (to - x.2).toNat) ([], from_) ?_ ?_ ?_
  · exact ⟨by omega, h1, by simp [partsF], by simp⟩
  · exact ⟨[none], _, rfl, by simp [AllEq, lk, tpartsA]⟩
  · rintro ⟨out, k⟩ ⟨hJ0, hJ1, hJ2, hJ3⟩
    simp only at hJ0 hJ1 hJ2 hJ3
    have hol := tparts_len out
    by_cases hk : k < to
    · obtain ⟨r, hr⟩ : ∃ r, r = (l.take to.toNat).drop k.toNat := ⟨_, rfl⟩
      have hrlen : r.length = to.toNat - k.toNat := by rw [hr, List.length_drop, List.length_take]; omega
      have hrne : r ≠ [] := by intro h; rw [h] at hrlen; simp at hrlen; omega
      have hcut : std.cut (runesA l) k to = runesA r := by
        show ((runesA l).drop k.toNat).take (to - k).toNat = _
        rw [hr, runesA, runesA, List.map_drop, List.map_take, List.drop_take]
        congr 1; omega
      obtain ⟨first, hf⟩ : ∃ b, b = decide (k = from_) := ⟨_, rfl⟩
      have heq : std.eqI k from_ = first := by
        rw [hf]
        show (k == from_) = decide (k = from_)
        by_cases h : k = from_ <;> simp [h]
      have hpn := tpiece_n r first hrne
      have hb := piece_b r hrne (by omega) first
      obtain ⟨K, hK⟩ : ∃ K, K = (tpieceF r first).1 := ⟨_, rfl⟩
      obtain ⟨N, hN⟩ : ∃ N, N = (tpieceF r first).2 := ⟨_, rfl⟩
      have hpk : pkA (std.cut (runesA l) k to) (std.eqI k from_) = K := by rw [hcut, heq, pkA, runes_back, hK]
      have hpnn : pnA (std.cut (runesA l) k to) (std.eqI k from_) = N := by rw [hcut, heq, pnA, runes_back, hN]
      rw [← hK, ← hN] at hb
      have hb : BCall Tryz.prog 86 [.slc 1 (std.cut (runesA l) k to), .val (.bool (std.eqI k from_))] [] (.tup [.val (.int .i64 (pkA (std.cut (runesA l) k to) (std.eqI k from_))), .val (.int .i64 (pnA (std.cut (runesA l) k to) (std.eqI k from_)))]) [] := by
        rw [hpk, hpnn, hcut, heq]; exact hb
      have hG : out ++ [⟨K, k, k + N⟩] ++ partsGo (k + N) (decide (k + N = from_)) ((l.take to.toNat).drop (k + N).toNat) = partsF l from_ to := by
        have e1 : decide (k + N = from_) = false := by simp; omega
        have e2 : (l.take to.toNat).drop (k + N).toNat = r.drop N.toNat := by rw [hr, List.drop_drop]; congr 1; omega
        have e3 : partsGo k first r = ⟨K, k, k + N⟩ :: partsGo (k + N) false (r.drop N.toNat) := by
          conv => lhs; rw [partsGo]
          rw [dif_neg hrne, ← hK, ← hN]
        rw [e1, e2, ← hJ2, ← hf, ← hr, e3]; simp
      have hN1 : 1 ≤ N := by rw [hN]; exact hpn.1
      have hN2 : k + N ≤ to := by rw [hN]; omega
      clear hpn hf en
      with_reducible refine cv4 pkA pnA (runesA l) (tpartsA out) ?_
      have en := hn.eq
      have hadd : std.add k (pnA (std.cut (runesA l) k to) (std.eqI k from_)) = k + N := by rw [hpnn]; rfl
      have hin : std.inR .i64 (std.add k (pnA (std.cut (runesA l) k to) (std.eqI k from_))) := by
        rw [hadd]; exact (inR64 _).2 (by omega)
      refine ⟨fun _ => ⟨?_, hb, hin, ?_, hin, (out ++ [⟨K, k, k + N⟩], k + N), ⟨by simp only; omega, hN2, hG, by simp only [List.length_append, List.length_singleton]; omega⟩, by simp only; omega, [some 0], _, rfl, ?_⟩, fun h => ?_⟩
      · simp only [std, hrl]; omega
      · simp only [std, hol, List.length_singleton]; omega
      · refine ⟨rfl, rfl, rfl, rfl, ?_, ?_, trivial⟩
        · show AV.val (.int .i64 (std.add k (pnA (std.cut (runesA l) k to) (std.eqI k from_)))) = _
          rw [hadd]
        · show AV.slc 0 (std.app (tpartsA out) [.agg [.val (.int .i64 (pkA (std.cut (runesA l) k to) (std.eqI k from_))), .val (.int .i64 k), .val (.int .i64 (std.add k (pnA (std.cut (runesA l) k to) (std.eqI k from_))))]]) = _
          rw [hadd, hpk, tparts_app, tparts_one]; rfl
      · simp [std] at h; omega
    · have hG : out = partsF l from_ to := by
        have : (l.take to.toNat).drop k.toNat = [] := List.drop_eq_nil_of_le (by rw [List.length_take]; omega)
        rw [← hJ2, this, partsGo, dif_pos rfl, List.append_nil]
      clear en
      with_reducible refine cv4 pkA pnA (runesA l) (tpartsA out) ?_
      with_reducible repeat' first | refine aU hk ?_ | refine And.intro ?_ ?_ | intro hb
      rw [if_pos trivial]
      with_reducible refine cv4 pkA pnA (runesA l) (tpartsA out) ?_
      exact .pure rfl (.inl (by rw [hG]))
end Go.Proofs.YtaklahcbeldbhaaGreatDoor
namespace Go.Proofs.YtaklahcbeldbhaaGreatDoor
open Go.RowKit Go.Lib
theorem at_map {α : Type} (f : α → AV) {l : List α} {i : Int} (h0 : 0 ≤ i) (h1 : i < l.length) (d : α) : std.at_ (l.map f) i = f (l[i.toNat]?.getD d) := by
  show (l.map f).getD i.toNat .dead = _
  rw [List.getD_eq_getElem?_getD]; exact getA f h0 h1 d
theorem int_cell {l : List Int} {i : Int} (h0 : 0 ≤ i) (h1 : i < l.length) : std.nth (std.cel (std.at_ (intsA l) i)) 0 = .val (.int .i64 (l[i.toNat]?.getD 0)) := by rw [intsA, at_map intA h0 h1 0]; rfl
theorem has_int {x : AV} {n : Int} {k : IntKind} (h : x = .val (.int k n)) : std.hasI k x := by subst h; rfl
theorem int_of {x : AV} {n : Int} {k : IntKind} (h : x = .val (.int k n)) : std.int x = n := by subst h; rfl
end Go.Proofs.YtaklahcbeldbhaaGreatDoor
namespace Go.Proofs.YtaklahcbeldbhaaGreatDoor
open Go.RowKit Go.Lib
inductive Cur where
  | root (n : Int)
  | kid (n f k : Int) (up : Cur)
  deriving Inhabited
def Cur.n : Cur → Int
  | .root n => n
  | .kid n _ _ _ => n
def Cur.f : Cur → Int
  | .root _ => 0
  | .kid _ f _ _ => f
def Cur.k : Cur → Int
  | .root _ => 0
  | .kid _ _ k _ => k
def upO (N : List AV) : Cur → AV
  | .root _ => .val (.pointer none)
  | .kid _ _ _ up => .ref [.ref [.slc 6 N], .val (.int .i64 up.n), .val (.int .i64 up.f), .val (.int .i64 up.k), .opt (upO N up)]
def Cur.cs (N : List AV) (c : Cur) : List AV := [.ref [.slc 6 N], .val (.int .i64 c.n), .val (.int .i64 c.f), .val (.int .i64 c.k), .opt (upO N c)]
def zeroC : List AV := [.val (.pointer none), .val (.int .i64 0), .val (.int .i64 0), .val (.int .i64 0), .val (.pointer none)]
theorem upO_ptr (N : List AV) (c : Cur) : isPtr (upO N c) := by cases c <;> trivial
def kidsAt (l : List Node) (c : Cur) : List Int := (nodeAt l c.n).kids
def downC (l : List Node) (c : Cur) (k : Int) : Cur := .kid ((kidsAt l c)[k.toNat]?.getD 0) (c.f + wsum l ((kidsAt l c).take k.toNat)) k c
def csRo (len : List AV → Int) : Nat → List AV → List Ob → Option (AV × List Ob) := fun f args _ => match f, args with
  | 81, [.ref [.slc 6 xs]] => some (.val (.int .i64 (len xs)), [])
  | _, _ => none
set_option maxRecDepth 20000 in
theorem Root_b (l : List Node) (n : Int) (h0 : 0 ≤ n) (h1 : n < l.length) : BCall Tryz.prog 52 [.ref [.slc 6 (nodesA l)], .val (.int .i64 n)] [] (.tup [.agg ((Cur.root n).cs (nodesA l)), .val (.int .i64 0)]) [] := by
  have cL := Len_l l
  have hlen : lenA (nodesA l) = l.length := by rw [lenA, nodes_len]
  refine fnN (csRo lenA) Tryz.func52 rfl fun _ _ => ?_
  with_reducible refine cv2 lenA (nodesA l) ?_
  refine ⟨fun h => ?_, fun _ => ⟨cL, fun h => ?_, fun _ => .pure rfl ⟨⟨.inl rfl, .inl rfl, .inl rfl, .inl rfl, .inr (.inr (.inl ⟨rfl, trivial⟩)), trivial⟩, .inl rfl, trivial⟩⟩⟩
  · have h : n < 0 := of_decide_eq_true h
    omega
  · have h : lenA (nodesA l) ≤ n := of_decide_eq_true h
    omega
def csDn (kd : Int → List AV) (w : Int → Int) : Nat → List AV → List Ob → Option (AV × List Ob) := fun f args _ => match f, args with
  | 79, [.ref [.slc 6 _], .val (.int .i64 n)] => some (.slc 1 (kd n), [])
  | 54, [.ref [.slc 6 _], .val (.int .i64 n)] => some (.val (.int .i64 (w n)), [])
  | _, _ => none
set_option maxRecDepth 20000 in
set_option maxHeartbeats 1000000 in
theorem Down_no (l : List Node) (c : Cur) (k : Int) (hk : ¬ (0 ≤ k ∧ k < (kidsAt l c).length)) (hn : (kidsAt l c).length ≤ 1000000) : BCall Tryz.prog 49 [.agg (c.cs (nodesA l)), .val (.int .i64 k)] [] (.tup [.agg zeroC, .val (.bool false)]) [] := by
  have cK := Kids_b l c.n (by show (kidsAt l c).length ≤ _; omega)
  obtain ⟨m, hm⟩ := exLen (kidsAt l c)
  have hlen := ints_len (kidsAt l c)
  have hk : ¬ (0 ≤ k ∧ k < m) := by rw [hm.eq]; exact hk
  rename ¬ (0 ≤ k ∧ k < ((kidsAt l c).length : Int)) => hk0
  clear hk0
  obtain ⟨cn, hcn⟩ : ∃ x, x = c.n := ⟨_, rfl⟩
  obtain ⟨cf, hcf⟩ : ∃ x, x = c.f := ⟨_, rfl⟩
  obtain ⟨ck, hck⟩ : ∃ x, x = c.k := ⟨_, rfl⟩
  have hkN : kidsN l cn = intsA (kidsAt l c) := by rw [hcn]; rfl
  rw [Cur.cs, ← hcn, ← hcf, ← hck]
  rw [← hcn] at cK
  have cK : BCall Tryz.prog 79 [.ref [.slc 6 (nodesA l)], .val (.int .i64 cn)] [] (.slc 1 (kidsN l cn)) [] := cK
  refine fnN (csDn (kidsN l) (widthN l)) Tryz.func49 rfl fun _ _ => ?_
  with_reducible refine cv4 (kidsN l) (widthN l) (upO (nodesA l) c) (nodesA l) ?_
  have hkl : std.len (kidsN l cn) = m := by show ((kidsN l cn).length : Int) = _; rw [hkN, hlen, hm.eq]
  refine ⟨cK, fun _ => .pure rfl ⟨⟨.inl rfl, .inl rfl, .inl rfl, .inl rfl, .inl rfl, trivial⟩, .inl rfl, trivial⟩, fun h => ⟨fun _ => .pure rfl ⟨⟨.inl rfl, .inl rfl, .inl rfl, .inl rfl, .inl rfl, trivial⟩, .inl rfl, trivial⟩, fun h2 => ?_⟩⟩
  have h : ¬ k < 0 := of_decide_eq_false h
  have h2 : ¬ std.len (kidsN l cn) ≤ k := of_decide_eq_false h2
  rw [hkl] at h2
  omega
set_option maxRecDepth 20000 in
set_option maxHeartbeats 1000000 in
theorem Down_ok (l : List Node) (c : Cur) (k : Int) (h0 : 0 ≤ k) (h1 : k < (kidsAt l c).length) (hn : (kidsAt l c).length ≤ 1000000) (hw : ∀ n, 0 ≤ widthN l n) (hs : wsum l (kidsAt l c) ≤ 2147483647) (hf0 : 0 ≤ c.f) (hf1 : c.f ≤ 2147483647) :
    BCall Tryz.prog 49 [.agg (c.cs (nodesA l)), .val (.int .i64 k)] [] (.tup [.agg ((downC l c k).cs (nodesA l)), .val (.bool true)]) [] := by
  have cK := Kids_b l c.n (by show (kidsAt l c).length ≤ _; omega)
  have cW := fun n => Width_b l n
  obtain ⟨cn, hcn⟩ : ∃ x, x = c.n := ⟨_, rfl⟩
  obtain ⟨cf, hcf⟩ : ∃ x, x = c.f := ⟨_, rfl⟩
  obtain ⟨ck, hck⟩ : ∃ x, x = c.k := ⟨_, rfl⟩
  obtain ⟨ks, hks⟩ : ∃ x, x = kidsAt l c := ⟨_, rfl⟩
  obtain ⟨m, hm⟩ := exLen ks
  have hkN : kidsN l cn = intsA ks := by rw [hcn, hks]; rfl
  rw [← hks] at h1 hn hs
  rw [← hcf] at hf0 hf1
  have h1m : k < m := by rw [hm.eq]; exact h1
  have hlen := ints_len ks
  have hkl : std.len (kidsN l cn) = m := by show ((kidsN l cn).length : Int) = _; rw [hkN, hlen, hm.eq]
  have hE : (downC l c k).cs (nodesA l) = [.ref [.slc 6 (nodesA l)], .val (.int .i64 (ks[k.toNat]?.getD 0)), .val (.int .i64 (cf + wsum l (ks.take k.toNat))), .val (.int .i64 k), .opt (.ref [.ref [.slc 6 (nodesA l)], .val (.int .i64 cn), .val (.int .i64 cf), .val (.int .i64 ck), .opt (upO (nodesA l) c)])] := by
    rw [hks, hcf, hcn, hck]; rfl
  rw [hE, Cur.cs, ← hcn, ← hcf, ← hck]
  rw [← hcn] at cK
  have cK : BCall Tryz.prog 79 [.ref [.slc 6 (nodesA l)], .val (.int .i64 cn)] [] (.slc 1 (kidsN l cn)) [] := cK
  have hat := ints_at (l := ks) h0 h1
  have hcut : std.cut (intsA ks) 0 k = intsA (ks.take k.toNat) := by
    show ((intsA ks).drop (0 : Int).toNat).take (k - 0).toNat = _
    simp [intsA, List.map_take]
  clear h1 hE
  refine fnN (csDn (kidsN l) (widthN l)) Tryz.func49 rfl fun _ _ => ?_
  with_reducible refine cv4 (kidsN l) (widthN l) (upO (nodesA l) c) (nodesA l) ?_
  refine ⟨cK, fun h => ?_, fun _ => ⟨fun h => ?_, fun _ => ⟨?_, ?_⟩⟩⟩
  · have h : k < 0 := of_decide_eq_true h
    omega
  · have h : std.len (kidsN l cn) ≤ k := of_decide_eq_true h
    rw [hkl] at h; omega
  · show std.cutok 0 k (std.len (kidsN l cn))
    rw [hkl]; exact ⟨Int.le_refl _, h0, by omega⟩
  have hcl : std.len (intsA (ks.take k.toNat)) = k := by
    show ((intsA (ks.take k.toNat)).length : Int) = k
    have := hm.eq
    rw [ints_len, List.length_take]; omega
  rw [← hkN] at hcut
  obtain ⟨aw, haw⟩ : ∃ aw : Int → Int, aw = fun i => cf + wsum l (ks.take i.toNat) := ⟨_, rfl⟩
  have hwk : cf + wsum l (ks.take k.toNat) = aw k := by rw [haw]
  rw [hwk]
  have hcl2 : std.len (std.cut (kidsN l cn) 0 k) = k := by rw [hcut, hcl]
  refine loopN (csDn (kidsN l) (widthN l)) (Int) (fun i => ⟨[(1, .val (.int .i64 k)), (2, .box 0 0), (4, .box 1 0), (6, .slc 1 (intsA ks)), (7, .val (.int .i64 (aw i))), (28, .slc 1 (intsA (ks.take k.toNat))), (29, .val (.int .i64 k)), (30, .val (.int .i64 i))], [.box [.ref [.slc 6 (nodesA l)], .val (.int .i64 cn), .val (.int .i64 cf), .val (.int .i64 ck), .opt (upO (nodesA l) c)], .box zeroC]⟩) (fun i => 0 ≤ i ∧ i ≤ k) (fun i => (k - i).toNat) 0 ?_ ?_ ?_
  · exact ⟨Int.le_refl _, h0⟩
  · refine ⟨[some 0, some 1], _, rfl, ?_⟩
    have hw0 : cf = aw 0 := by rw [haw]; simp [wsum]
    repeat first
      | exact trivial
      | refine ⟨gA hkN, ?_⟩
      | refine ⟨gA hcut, ?_⟩
      | refine ⟨gI hcl2, ?_⟩
      | refine ⟨gI hw0, ?_⟩
      | refine ⟨rfl, ?_⟩
  · rintro i ⟨hi0, hi1⟩
    have hw1 := wsum_pos hw (ks.take i.toNat)
    have hw2 := wsum_le hw ks i.toNat
    rcases Int.lt_or_eq_of_le hi1 with hlt | heq
    · have hm1 := hm.eq
      have hil : i.toNat < ks.length := by omega
      have hx : (intsA (ks.take k.toNat))[i.toNat]?.getD .dead = .val (.int .i64 (ks[i.toNat]?.getD 0)) := by
        have := ints_at (l := ks.take k.toNat) (i := i) hi0 (by rw [List.length_take]; omega)
        rw [this, List.getElem?_take, if_pos (by omega)]
      have hxc := int_cell (l := ks.take k.toNat) (i := i) hi0 (by rw [List.length_take]; omega)
      rw [List.getElem?_take, if_pos (by omega)] at hxc
      have hnx : wsum l (ks.take (i + 1).toNat) = wsum l (ks.take i.toNat) + widthN l (ks[i.toNat]?.getD 0) := by
        rw [show (i + 1).toNat = i.toNat + 1 by omega, List.take_add_one, List.getElem?_eq_getElem hil]
        show (((ks.take i.toNat) ++ [ks[i.toNat]]).map (widthN l)).sum = _
        rw [List.map_append, List.sum_append]
        simp [wsum]
      have hw3 := wsum_le hw ks (i + 1).toNat
      rw [hnx] at hw3
      have hw4 := hw (ks[i.toNat]?.getD 0)
      have haw2 : aw (i + 1) = aw i + widthN l (ks[i.toNat]?.getD 0) := by rw [haw]; simp only [hnx]; omega
      have hawi : aw i = cf + wsum l (ks.take i.toNat) := by rw [haw]
      have hr1 : 0 ≤ aw i + widthN l (ks[i.toNat]?.getD 0) ∧ aw i + widthN l (ks[i.toNat]?.getD 0) ≤ 4294967294 := by omega
      obtain ⟨y, hy⟩ : ∃ y, y = ks[i.toNat]?.getD 0 := ⟨_, rfl⟩
      rw [← hy] at hx hxc haw2 hr1
      clear hm1 hw1 hw2 hw3 hnx hw4 hawi haw hwk
      have hlt' := hlt
      with_reducible refine cv6 (kidsN l) (widthN l) (upO (nodesA l) c) (nodesA l) (intsA ks) (intsA (ks.take k.toNat)) ?_
      have hy3 := hxc
      have hy2 := int_of hxc
      have e1 : aw i + widthN l y = aw (i + 1) := haw2.symm
      refine ⟨fun _ => ⟨?_, ⟨?_, trivial⟩, cW _, ?_, ?_, i + 1, ⟨by omega, by omega⟩, by omega, [some 0, some 1], _, rfl, ?_⟩, fun h => ?_⟩
      · show 0 ≤ i ∧ i < std.len (intsA (ks.take k.toNat))
        rw [hcl]; omega
      · show std.nth (std.cel (std.at_ (intsA (ks.take k.toNat)) i)) 0 = .val (.int .i64 (std.int (std.nth (std.cel (std.at_ (intsA (ks.take k.toNat)) i)) 0)))
        rw [hy2, hy3]
      · show (-9223372036854775808 : Int) ≤ aw i + widthN l (std.int (std.nth (std.cel (std.at_ (intsA (ks.take k.toNat)) i)) 0)) ∧ aw i + widthN l (std.int (std.nth (std.cel (std.at_ (intsA (ks.take k.toNat)) i)) 0)) ≤ (9223372036854775807 : Int)
        rw [hy2]; omega
      · show (-9223372036854775808 : Int) ≤ i + 1 ∧ i + 1 ≤ (9223372036854775807 : Int)
        have := hm.eq
        omega
      · have e2 : std.add (aw i) (widthN l (std.int (std.nth (std.cel (std.at_ (intsA (ks.take k.toNat)) i)) 0))) = aw (i + 1) := by rw [hy2]; exact e1
        exact eq1 e2
      · have h : ¬ i < k := of_decide_eq_false h
        omega
    · rw [heq]
      clear hw1 hw2 haw hwk
      with_reducible refine cv6 (kidsN l) (widthN l) (upO (nodesA l) c) (nodesA l) (intsA ks) (intsA (ks.take k.toNat)) ?_
      refine ⟨fun h => ?_, fun _ => ?_⟩
      · have h : k < k := of_decide_eq_true h
        omega
      rw [if_pos trivial]
      with_reducible refine cv6 (kidsN l) (widthN l) (upO (nodesA l) c) (nodesA l) (intsA ks) (intsA (ks.take k.toNat)) ?_
      have hkm := hm.eq
      have hcl3 : std.len (intsA ks) = m := by show ((intsA ks).length : Int) = m; rw [ints_len, hm.eq]
      have hc := int_cell (l := ks) h0 (by omega)
      refine ⟨?_, ⟨has_int hc, trivial⟩, .pure rfl ⟨⟨.inl rfl, .inl (gI (int_of hc)), .inl rfl, .inl rfl, .inr (.inr (.inl ⟨rfl, trivial⟩)), trivial⟩, .inl rfl, trivial⟩⟩
      show 0 ≤ k ∧ k < std.len (intsA ks)
      rw [hcl3]; omega
def csKi (k : Int → Int) : Nat → List AV → List Ob → Option (AV × List Ob) := fun f args _ => match f, args with
  | 82, [.ref [.slc 6 _], .val (.int .i64 n)] => some (.val (.int .i64 (k n)), [])
  | _, _ => none
theorem CKind_b (l : List Node) (c : Cur) : BCall Tryz.prog 53 [.agg (c.cs (nodesA l))] [] (.val (.int .i64 (nodeAt l c.n).kind)) [] := by
  have cK := Kind_b l c.n
  rw [Cur.cs]
  obtain ⟨cn, hcn⟩ : ∃ x, x = c.n := ⟨_, rfl⟩
  obtain ⟨cf, hcf⟩ : ∃ x, x = c.f := ⟨_, rfl⟩
  obtain ⟨ck, hck⟩ : ∃ x, x = c.k := ⟨_, rfl⟩
  rw [← hcn] at cK ⊢
  rw [← hcf, ← hck]
  refine fnN (csKi (kindN l)) Tryz.func53 rfl fun _ _ => ?_
  with_reducible refine cv3 (kindN l) (upO (nodesA l) c) (nodesA l) ?_
  exact ⟨cK, .pure rfl (.inl rfl)⟩
def toC (l : List Node) : Cur → List Int → Option Cur
  | c, [] => some c
  | c, k :: r => if 0 ≤ k ∧ k < (kidsAt l c).length then toC l (downC l c k) r else none
structure CurOk (l : List Node) (c : Cur) : Prop where
  n : (kidsAt l c).length ≤ 1000000
  s : wsum l (kidsAt l c) ≤ 2147483647
  f0 : 0 ≤ c.f
  f1 : c.f ≤ 2147483647
end Go.Proofs.YtaklahcbeldbhaaGreatDoor
namespace Go.Proofs.YtaklahcbeldbhaaGreatDoor
open Go.RowKit Go.Lib
end Go.Proofs.YtaklahcbeldbhaaGreatDoor
namespace Go.Proofs.YtaklahcbeldbhaaGreatDoor
open Go.RowKit Go.Lib
def planL (g : Nat → Option (List Srt)) (ty : Tys) : Nat → List Field → Option (List Srt)
  | _, [] => some []
  | off, f :: r => if f.name ≠ "_" ∧ f.offset = off ∧ (tyLook f.type ty).ok = true then
      (match g f.type, planL g ty (off + (tyLook f.type ty).size) r with
      | some s, some q => if s.length = (tyLook f.type ty).size then some (s ++ q) else none
      | _, _ => none) else none
def eqPlan (P : Program) (ty : Tys) : Nat → Nat → Option (List Srt)
  | 0, _ => none
  | d + 1, t => match P.underlying t with
    | some (.struct fs) => if P.stoodInHeld t = false then planL (eqPlan P ty d) ty 0 fs.toList else none
    | some .bool => some [.boo]
    | some .string => some [.str]
    | some (.int k) => some [.int k]
    | _ => none
section
variable {P : Program} {ty : Tys}
def mkV (ty : Tys) (t : Nat) (xs : List Value) : Value := if (tyLook t ty).agg = true then .agg xs.toArray else xs.headD undef
def allV (xs ys : List Value) : Bool := (xs.zip ys).all fun q => eqV q.1 q.2
theorem allV_app {a b c d : List Value} (h : a.length = c.length) : allV (a ++ b) (c ++ d) = (allV a c && allV b d) := by
  unfold allV
  rw [List.zip_append h, List.all_append]
theorem srt_len {xs : List Value} {sh : List Srt} (h : xs.map srtV = sh.map some) : xs.length = sh.length := by
  have := congrArg List.length h
  simpa using this
theorem srt_one {xs : List Value} {s : Srt} (h : xs.map srtV = [s].map some) : ∃ x, xs = [x] ∧ srtV x = some s := by
  cases xs with
  | nil => cases h
  | cons x t =>
    obtain ⟨h1, h2⟩ := List.cons.inj h
    obtain rfl : t = [] := by simpa using h2
    exact ⟨x, rfl, h1⟩
theorem agg_of (hT : TyOk P ty) {t : Nat} (hk : (tyLook t ty).ok = true) {d : TypeDesc} (h : P.underlying t = some d) : (tyLook t ty).agg = (shapeOf d).1 := by
  obtain ⟨d', h1, h2⟩ := (ty_ok hT hk).u
  rw [h] at h1
  cases h1
  rw [h2]
theorem part_ok (hT : TyOk P ty) {t : Nat} (hk : (tyLook t ty).ok = true) (xs : List Value) (off : Nat) (hl : off + (tyLook t ty).size ≤ xs.length) (W : World) :
    (part t xs.toArray off).run P W = .ok (mkV ty t ((xs.drop off).take (tyLook t ty).size)) W := by
  have ti := ty_ok hT hk
  unfold part mkV
  rw [Sem.run_bind, ti.isAgg W]
  simp only [Result.andThen_ok]
  by_cases hg : (tyLook t ty).agg = true
  · rw [if_pos hg, if_pos hg, Sem.run_bind, ti.size W]
    simp only [Result.andThen_ok, Sem.run_pure]
    congr 2
    apply Array.toList_inj.1
    simp [List.take_drop]
  · rw [if_neg hg, if_neg hg]
    have h1 := ti.one (by simpa using hg)
    rw [h1]
    have h2 : off < xs.length := by omega
    have : xs.toArray[off]? = some xs[off] := by simp [h2]
    rw [this, List.drop_eq_getElem_cons h2]
    rfl
theorem planL_ok (hT : TyOk P ty) {g : Nat → Option (List Srt)} {n : Nat}
    (ih : ∀ t sh, g t = some sh → (tyLook t ty).ok = true → ∀ (xs ys : List Value) (W : World), xs.map srtV = sh.map some → ys.map srtV = sh.map some → (Op.equalIn n t (mkV ty t xs) (mkV ty t ys)).run P W = .ok (allV xs ys) W) :
    ∀ (fs : List Field) (off : Nat) (sh : List Srt), planL g ty off fs = some sh → ∀ (xs ys : List Value) (W : World), off ≤ xs.length → off ≤ ys.length → (xs.drop off).map srtV = sh.map some → (ys.drop off).map srtV = sh.map some →
      (Op.eqFields n xs.toArray ys.toArray fs).run P W = .ok (allV (xs.drop off) (ys.drop off)) W
  | [], off, sh, h, xs, ys, W, _, _, hx, hy => by
    obtain rfl : [] = sh := by simpa [planL] using h
    have hx : xs.drop off = [] := by simpa using hx
    have hy : ys.drop off = [] := by simpa using hy
    rw [hx, hy]; rfl
  | f :: r, off, sh, h, xs, ys, W, hox, hoy, hx, hy => by
    simp only [planL] at h
    split at h
    · rename_i hf
      obtain ⟨hn, ho, hk⟩ := hf
      split at h
      · rename_i s q hs hq
        split at h
        · rename_i hl
          obtain rfl : s ++ q = sh := by simpa using h
          have lx := srt_len hx
          have ly := srt_len hy
          rw [List.length_drop, List.length_append] at lx ly
          have ex : xs.drop off = (xs.drop off).take s.length ++ xs.drop (off + s.length) := by rw [← List.drop_drop, List.take_append_drop]
          have ey : ys.drop off = (ys.drop off).take s.length ++ ys.drop (off + s.length) := by rw [← List.drop_drop, List.take_append_drop]
          have lxt : ((xs.drop off).take s.length).length = s.length := by rw [List.length_take, List.length_drop]; omega
          have lyt : ((ys.drop off).take s.length).length = s.length := by rw [List.length_take, List.length_drop]; omega
          rw [ex, List.map_append, List.map_append] at hx
          rw [ey, List.map_append, List.map_append] at hy
          obtain ⟨hx1, hx2⟩ := List.append_inj hx (by simp only [List.length_map]; exact lxt)
          obtain ⟨hy1, hy2⟩ := List.append_inj hy (by simp only [List.length_map]; exact lyt)
          have rc := planL_ok hT ih r (off + (tyLook f.type ty).size) q hq xs ys
          rw [← hl] at rc
          have one := ih f.type s hs hk _ _ W hx1 hy1
          rw [ex, ey, allV_app (by rw [lxt, lyt])]
          simp only [Op.eqFields]
          rw [if_pos hn, Sem.run_bind, ho, part_ok hT hk xs off (by omega) W]
          simp only [Result.andThen_ok]
          rw [Sem.run_bind, part_ok hT hk ys off (by omega) W]
          simp only [Result.andThen_ok]
          rw [Sem.run_bind, ← hl, one]
          simp only [Result.andThen_ok]
          cases hb : allV ((xs.drop off).take s.length) ((ys.drop off).take s.length) with
          | false => simp
          | true => simpa using rc W (by omega) (by omega) hx2 hy2
        · cases h
      · cases h
    · cases h
theorem eqPlan_ok (hT : TyOk P ty) : ∀ (d e t : Nat) (sh : List Srt), eqPlan P ty d t = some sh → (tyLook t ty).ok = true → ∀ (xs ys : List Value) (W : World), xs.map srtV = sh.map some → ys.map srtV = sh.map some →
    (Op.equalIn (e + d) t (mkV ty t xs) (mkV ty t ys)).run P W = .ok (allV xs ys) W
  | 0, _, _, _, h, _, _, _, _, _, _ => by cases h
  | d + 1, e, t, sh, h, hk, xs, ys, W, hx, hy => by
    simp only [eqPlan] at h
    split at h
    · rename_i fs hu
      split at h
      · rename_i hp
        have hg : (tyLook t ty).agg = true := agg_of hT hk hu
        have hS : P.underlying t = some (.struct (P.fieldsOf t)) := by
          rw [hu]; simp [Program.fieldsOf, hu]
        have hF : P.fieldsOf t = fs := by simp [Program.fieldsOf, hu]
        unfold mkV
        rw [if_pos hg, if_pos hg, ← Nat.add_assoc, run_equalIn_agg W _ _ _ _ hS hp, hF]
        exact planL_ok hT (fun t sh h hk xs ys W hx hy => eqPlan_ok hT d e t sh h hk xs ys W hx hy) fs.toList 0 sh h xs ys W (Nat.zero_le _) (Nat.zero_le _) hx hy
      · cases h
    · rename_i hu
      have hg : (tyLook t ty).agg = false := agg_of hT hk hu
      obtain rfl : [Srt.boo] = sh := by simpa using h
      obtain ⟨x, rfl, hx1⟩ := srt_one hx
      obtain ⟨y, rfl, hy1⟩ := srt_one hy
      cases x <;> simp only [srtV, Option.some.injEq, reduceCtorEq] at hx1
      cases y <;> simp only [srtV, Option.some.injEq, reduceCtorEq] at hy1
      unfold mkV
      rw [if_neg (by rw [hg]; decide), if_neg (by rw [hg]; decide)]
      rw [← Nat.add_assoc]
      refine (run_equalIn_bool' W _ _ _ _ hu).trans ?_
      simp [allV, eqV]
    · rename_i hu
      have hg : (tyLook t ty).agg = false := agg_of hT hk hu
      obtain rfl : [Srt.str] = sh := by simpa using h
      obtain ⟨x, rfl, hx1⟩ := srt_one hx
      obtain ⟨y, rfl, hy1⟩ := srt_one hy
      cases x <;> simp only [srtV, Option.some.injEq, reduceCtorEq] at hx1
      cases y <;> simp only [srtV, Option.some.injEq, reduceCtorEq] at hy1
      unfold mkV
      rw [if_neg (by rw [hg]; decide), if_neg (by rw [hg]; decide)]
      rw [← Nat.add_assoc]
      refine (run_equalIn_string W _ _ _ _ hu).trans ?_
      simp [allV, eqV]
    · rename_i k hu
      have hg : (tyLook t ty).agg = false := agg_of hT hk hu
      obtain rfl : [Srt.int k] = sh := by simpa using h
      obtain ⟨x, rfl, hx1⟩ := srt_one hx
      obtain ⟨y, rfl, hy1⟩ := srt_one hy
      cases x <;> simp only [srtV, Option.some.injEq, Srt.int.injEq, reduceCtorEq] at hx1
      cases y <;> simp only [srtV, Option.some.injEq, Srt.int.injEq, reduceCtorEq] at hy1
      subst hx1 hy1
      unfold mkV
      rw [if_neg (by rw [hg]; decide), if_neg (by rw [hg]; decide)]
      rw [← Nat.add_assoc]
      refine (run_equalIn_int W _ _ _ _ _ _ hu).trans ?_
      simp [allV, eqV]
    · cases h
theorem EqOk.plan (hT : TyOk P ty) {T : Nat} {sh : List Srt} (h : eqPlan P ty 8 T = some sh) (hk : (tyLook T ty).ok = true) (ha : (tyLook T ty).agg = true) (hg : P.eqGuardType P.depth T = false) : EqOk P T sh := by
  intro xs ys x y W hx hy
  have key := eqPlan_ok hT 8 9992 T sh h hk xs ys W hx hy
  unfold mkV at key
  rw [if_pos ha, if_pos ha] at key
  refine ⟨run_eqGuard_agg W _ _ _ _ _ _ hg, run_eqGuard_agg W _ _ _ _ _ _ hg, ?_, ?_⟩
  · rw [run_eql_struct]
    rw [show (10000 : Nat) = 9992 + 8 from rfl, key]; rfl
  · rw [run_neq_struct]
    rw [show (10000 : Nat) = 9992 + 8 from rfl, key]; rfl
end
end Go.Proofs.YtaklahcbeldbhaaGreatDoor
namespace Go.Proofs.YtaklahcbeldbhaaGreatDoor
open Go.RowKit Go.Lib
def gl (w : World) : Gh := ⟨fun b _ => b < w.heap.size, fun _ => none, fun _ => 0, fun _ => false⟩
theorem mem_law (w : World) : Mem w (gl w) [] :=
  ⟨(fun id cs h => by simp at h), (fun id cs h => by simp at h), (fun id y h => by simp at h), (fun b id h => by cases h), (fun b o h => ⟨h, fun id h2 => by cases h2⟩), (fun id et sz fz e xs h => by simp at h), (fun b h => by cases h), (fun b b' id h => by cases h)⟩
theorem BCall.law {P : Program} {f : Nat} {vs : List Value} {args : List AV} {res : Value} (h : BCall P f args [] (.val res) []) (w : World) (hL : ARelL w (gl w) [] vs args) :
    Calls P f vs.toArray w fun e w' => e = .returned res ∧ Below w.heap.size w w' :=
  (h.2 w (gl w) vs (mem_law w) hL).mono fun e w' ⟨v, g', k1, k2, k3, k4⟩ => by
    have hv : v = res := ARel.valEq (g := g') (w := w') (ob := []) k3
    subst hv
    exact ⟨k1, k4.os, k4.tape, k4.output, k4.size, fun b hb => k4.keep b hb rfl⟩
theorem argL_nil {w : World} {g : Gh} {ob : List Ob} : ARelL w g ob [] [] := ⟨rfl, fun j v x h => by simp at h⟩
theorem argL_cons {w : World} {g : Gh} {ob : List Ob} {v : Value} {x : AV} {vs : List Value} {xs : List AV} (h : ARel1 w g ob v x) (hr : ARelL w g ob vs xs) : ARelL w g ob (v :: vs) (x :: xs) := by
  refine ⟨by simp [hr.1], fun j u y hu hy => ?_⟩
  cases j with
  | zero =>
    obtain rfl : v = u := by simpa using hu
    obtain rfl : x = y := by simpa using hy
    exact h
  | succ j => exact hr.2 j u y (by simpa using hu) (by simpa using hy)
theorem arg_val {w : World} {v : Value} (h : v.oneCell' = true) : ARel1 w (gl w) [] v (.val v) := PRel.val v h
end Go.Proofs.YtaklahcbeldbhaaGreatDoor
namespace Go.Proofs.YtaklahcbeldbhaaGreatDoor
open Go.RowKit Go.Lib
section
variable {P : Program} {ty : Tys}
def plainK (P : Program) (t : Nat) : Bool := match P.underlying t with
  | some (.int _) => true
  | some .bool => true
  | some .string => true
  | _ => false
theorem check_plain {t : Nat} (h : plainK P t = true) (b : Bool) (n : Nat) (v : Value) (W : World) : (Instr.checkKey b (n + 1) t v).run P W = .ok () W := by
  unfold plainK at h
  split at h
  · rename_i k hu
    unfold Instr.checkKey
    rw [Sem.run_bind, run_underlying hu]
    rfl
  · rename_i hu
    unfold Instr.checkKey
    rw [Sem.run_bind, run_underlying hu]
    rfl
  · rename_i hu
    unfold Instr.checkKey
    rw [Sem.run_bind, run_underlying hu]
    rfl
  · cases h
theorem check_loop (hT : TyOk P ty) (b : Bool) (n : Nat) (xs : List Value) (W : World) : ∀ fs : List Field, (fs.all fun f => plainK P f.type && ((tyLook f.type ty).ok && decide (f.offset + (tyLook f.type ty).size ≤ xs.length))) = true →
    (forIn fs PUnit.unit (fun f _ => if f.name ≠ "_" then (do
        let q ← part f.type xs.toArray f.offset
        Instr.checkKey b (n + 1) f.type q
        pure (ForInStep.yield PUnit.unit)) else pure (ForInStep.yield PUnit.unit)) : Sem PUnit).run P W = .ok PUnit.unit W
  | [], _ => rfl
  | f :: r, h => by
    rw [List.all_cons, Bool.and_eq_true, Bool.and_eq_true, Bool.and_eq_true, decide_eq_true_eq] at h
    obtain ⟨⟨h1, h2, h3⟩, h4⟩ := h
    have ih := check_loop hT b n xs W r h4
    rw [List.forIn_cons, Sem.run_bind]
    by_cases hn : f.name ≠ "_"
    · rw [if_pos hn]
      simp only [Sem.run_bind, part_ok hT h2 xs f.offset h3 W, Result.andThen_ok, check_plain h1 b n _ W, Sem.run_pure]
      exact ih
    · rw [if_neg hn]
      simp only [Sem.run_bind, Sem.run_pure, Result.andThen_ok]
      exact ih
theorem KeyOk.plan (hT : TyOk P ty) {T : Nat} {sh : List Srt} (h : eqPlan P ty 8 T = some sh) (hk : (tyLook T ty).ok = true) (ha : (tyLook T ty).agg = true) (hs : (P.underlying T).isSome = true) (hkd : (tyLook T ty).kd = 1)
    (hf : ((P.fieldsOf T).toList.all fun f => plainK P f.type && ((tyLook f.type ty).ok && decide (f.offset + (tyLook f.type ty).size ≤ sh.length))) = true) : KeyOk P T sh := by
  obtain ⟨fs, hu, _⟩ := (ty_ok hT hk).strct hkd
  have hF : P.fieldsOf T = fs := by simp [Program.fieldsOf, hu]
  rw [hF] at hf
  refine ⟨fun xs b W hx => ?_, fun xs ys W hx hy => ?_⟩
  · have hl := srt_len hx
    rw [← hl] at hf
    have := check_loop hT b 9998 xs W fs.toList hf
    show (Instr.checkKey b (9999 + 1) T (.agg xs.toArray)).run P W = _
    unfold Instr.checkKey
    rw [Sem.run_bind, run_underlying hu]
    simp only [Result.andThen_ok]
    rw [← Array.forIn_toList, Sem.run_bind]
    exact (congrArg (fun r => Result.andThen r _) this).trans rfl
  · have key := eqPlan_ok hT 8 9992 T sh h hk xs ys W hx hy
    unfold mkV at key
    rw [if_pos ha, if_pos ha] at key
    exact key
end
end Go.Proofs.YtaklahcbeldbhaaGreatDoor
namespace Go.Proofs.YtaklahcbeldbhaaGreatDoor
open Go.RowKit Go.Lib
def bsZ (l : List UInt8) : ByteArray := ⟨l.toArray⟩
theorem bsZ_cat (a b : List UInt8) : std.catS (bsZ a) (bsZ b) = bsZ (a ++ b) := by
  show (bsZ a) ++ (bsZ b) = bsZ (a ++ b)
  have h : ((bsZ a) ++ (bsZ b)).data = (bsZ (a ++ b)).data := by
    rw [ByteArray.data_append]; simp [bsZ]
  cases hx : (bsZ a) ++ (bsZ b)
  rw [hx] at h
  cases hy : bsZ (a ++ b)
  rw [hy] at h
  exact congrArg ByteArray.mk h
theorem bsZ_size (a : List UInt8) : (bsZ a).size = a.length := by simp [bsZ, ByteArray.size]
theorem bsZ_data (a : List UInt8) : (bsZ a).data.toList = a := by simp [bsZ]
theorem bsZ_back (b : ByteArray) : bsZ b.data.toList = b := by
  cases b; simp [bsZ]
theorem bsZ_eq (a b : List UInt8) : std.eqS (bsZ a) (bsZ b) = decide (a = b) := by
  show ((bsZ a).toList == (bsZ b).toList) = _
  rw [ByteArray.toList_eq, ByteArray.toList_eq, bsZ_data, bsZ_data, Bool.eq_iff_iff]
  simp
def digZ (n : Int) : List UInt8 := [UInt8.ofNat (48 + (n.toNat % 10))]
theorem digZ_str (n : Int) (h : 0 ≤ n) (h9 : n < 10) : std.strB [.val (.int .u8 (std.wrap .u8 (std.add 48 n)))] = bsZ (digZ n) := by
  obtain ⟨k, rfl⟩ : ∃ k : Nat, n = k := ⟨n.toNat, by omega⟩
  have h2 : k < 10 := by omega
  rw [digZ, Int.toNat_natCast, Nat.mod_eq_of_lt h2]
  have : ∀ k : Nat, k < 10 → std.strB [.val (.int .u8 (std.wrap .u8 (std.add 48 (k : Int))))] = bsZ [UInt8.ofNat (48 + k)] := by decide
  exact this k h2
theorem digZ_isB (n : Int) (h : 0 ≤ n) (h9 : n < 10) : (std.isB [.val (.int .u8 (std.wrap .u8 (std.add 48 n)))]).q := by
  obtain ⟨k, rfl⟩ : ∃ k : Nat, n = k := ⟨n.toNat, by omega⟩
  have h2 : k < 10 := by omega
  have : ∀ k : Nat, k < 10 → (std.isB [.val (.int .u8 (std.wrap .u8 (std.add 48 (k : Int))))]).b = true := by decide
  exact (std.isB _).h.1 (this k h2)
theorem zdg_step (n : Int) (h : 10 ≤ n) : zdg n.toNat = zdg (n / 10).toNat ++ digZ n := by
  rw [zdg, if_neg (by omega), digZ]
  congr 2
  omega
theorem zdg_last (n : Int) (h0 : 0 ≤ n) (h : n < 10) : zdg n.toNat = digZ n := by
  rw [zdg, if_pos (by omega), digZ]
  congr 2
  omega
theorem zdg_19 (n : Int) (h : n ≤ 9223372036854775807) : (zdg n.toNat).length ≤ 19 := zdg_le _ 19 (by decide) (by omega)
theorem bsZ_idx (w : List UInt8) (k : Int) : std.idxS (bsZ w) k = ((w[k.toNat]?.getD 0).toNat : Int) := by
  show (((bsZ w).data.getD k.toNat 0).toNat : Int) = _
  rw [bsZ, Array.getD_eq_getD_getElem?, List.getElem?_toArray]
theorem bsZ_get (w : List UInt8) (p : Nat) (h : p < w.length) (h2 : p < (bsZ w).size) : (bsZ w)[p]'h2 = w[p] := by
  show (bsZ w).data[p] = _
  rfl
theorem zitr_dig (w : List UInt8) (p : Nat) (h : p < w.length) : (48 ≤ w[p].toNat ∧ w[p].toNat ≤ 57 → std.itr (bsZ w) p = w[p].toNat ∧ std.itp (bsZ w) p = p + 1) ∧ (¬ (48 ≤ w[p].toNat ∧ w[p].toNat ≤ 57) → std.itr (bsZ w) p < 48 ∨ 57 < std.itr (bsZ w) p) := by
  have h2 : p < (bsZ w).size := by rw [bsZ_size]; exact h
  have hg := bsZ_get w p h h2
  have asc : w[p].toNat < 128 → std.itr (bsZ w) p = w[p].toNat ∧ std.itp (bsZ w) p = p + 1 := fun ha => by
    have hd := decode_ascii (bsZ w) p h2 (by rw [hg]; exact ha)
    rw [hg] at hd
    exact ⟨by show ((Utf8.decode (bsZ w) p).1 : Int) = _; rw [hd], by show p + (Utf8.decode (bsZ w) p).2 = _; rw [hd]⟩
  refine ⟨fun ⟨h3, h4⟩ => asc (by omega), fun h3 => ?_⟩
  by_cases ha : w[p].toNat < 128
  · rw [(asc ha).1]; omega
  · have hd := (decode_high (bsZ w) p h2 (by rw [hg]; omega)).1
    refine .inr ?_
    show 57 < ((Utf8.decode (bsZ w) p).1 : Int)
    omega
theorem zwor_at (w : List UInt8) (n p : Nat) (h : p < w.length) : zwor n (w.drop p) = if 48 ≤ w[p].toNat ∧ w[p].toNat ≤ 57 then zwor (10 * n + (w[p].toNat - 48)) (w.drop (p + 1)) else none := by
  rw [List.drop_eq_getElem_cons h, zwor]
theorem zwor_end (w : List UInt8) (n p : Nat) (h : w.length ≤ p) : zwor n (w.drop p) = some n := by
  rw [List.drop_of_length_le h, zwor]
def nbZ (n : Int) : ByteArray := bsZ (zdg n.toNat)
def csNum (nb : Int → ByteArray) : Nat → List AV → List Ob → Option (AV × List Ob) := fun f args _ => match f, args with
  | 14, [.val (.int .i64 n)] => some (.val (.string (nb n)), [])
  | _, _ => none
set_option maxRecDepth 20000 in
theorem znum_b (n : Int) (h0 : 0 ≤ n) (h1 : n ≤ 9223372036854775807) : BCall Tryz.prog 14 [.val (.int .i64 n)] [] (.val (.string (bsZ (zdg n.toNat)))) [] := by
  have key : ∀ (k : Nat) (n : Int), n ≤ 9223372036854775807 → 0 ≤ n → n.toNat < k → BCall Tryz.prog 14 [.val (.int .i64 n)] [] (.val (.string (bsZ (zdg n.toNat)))) [] := by
    intro k
    induction k with
    | zero => intro n _ _ h; omega
    | succ k ih =>
      intro n h1 k0 hk
      have hq : std.quo n 10 = n / 10 := Int.tdiv_eq_ediv_of_nonneg k0
      have hr : std.rem n 10 = n % 10 := Int.tmod_eq_emod_of_nonneg k0
      have hlen := zdg_19 (n / 10) (by omega)
      have hl1 := zdg_last (n % 10) (by omega) (by omega)
      have hl2 : digZ (n % 10) = digZ n := by rw [digZ, digZ]; congr 3; omega
      have c1 := bsZ_cat (zdg (n / 10).toNat) (zdg (n % 10).toNat)
      rw [hl1, hl2] at c1
      have hstep : 10 ≤ n → zdg n.toNat = zdg (n / 10).toNat ++ digZ n := zdg_step n
      by_cases h10 : n < 10
      · have hlt : std.ltI n 10 = true := decide_eq_true h10
        have hS := digZ_str n k0 h10
        have hI := digZ_isB n k0 h10
        have hN := zdg_last n k0 h10
        rw [hN]
        clear ih
        refine fnN (csNum nbZ) Tryz.func14 rfl fun _ _ => ?_
        with_reducible refine cv1 nbZ ?_
        refine ⟨fun _ => ⟨?_, hI, .pure rfl (.inl (congrArg (fun x => AV.val (.string x)) hS))⟩, fun h => ?_⟩
        · show -9223372036854775808 ≤ 48 + n ∧ 48 + n ≤ 9223372036854775807
          omega
        · have h : std.ltI n 10 = false := h
          rw [hlt] at h; cases h
      · have hlt : std.ltI n 10 = false := decide_eq_false h10
        have ih1 := ih (n / 10)
        have ih2 := ih (n % 10)
        clear ih
        refine fnN (csNum nbZ) Tryz.func14 rfl fun _ _ => ?_
        with_reducible refine cv1 nbZ ?_
        refine ⟨fun h => ?_, fun _ => ⟨⟨show (10 : Int) ≠ 0 by decide, ?_, trivial⟩, ?_, ⟨show (10 : Int) ≠ 0 by decide, ?_, trivial⟩, ?_, ?_, .pure rfl (.inl ?_)⟩⟩
        · have h : std.ltI n 10 = true := h
          rw [hlt] at h; cases h
        · show -9223372036854775808 ≤ std.quo n 10 ∧ std.quo n 10 ≤ 9223372036854775807
          rw [hq]; omega
        · show BCall _ _ [.val (.int .i64 (std.quo n 10))] [] (.val (.string (bsZ (zdg (std.quo n 10).toNat)))) []
          rw [hq]
          exact ih1 (by omega) (by omega) (by omega)
        · show -9223372036854775808 ≤ std.rem n 10 ∧ std.rem n 10 ≤ 9223372036854775807
          rw [hr]; omega
        · show BCall _ _ [.val (.int .i64 (std.rem n 10))] [] (.val (.string (bsZ (zdg (std.rem n 10).toNat)))) []
          rw [hr]
          exact ih2 (by omega) (by omega) (by omega)
        · show (((bsZ (zdg (std.quo n 10).toNat)).size + (bsZ (zdg (std.rem n 10).toNat)).size : Nat) : Int) ≤ 9223372036854775807
          rw [hq, hr, bsZ_size, bsZ_size, hl1, show (digZ (n % 10)).length = 1 from rfl]; omega
        · show AV.val (.string (std.catS (bsZ (zdg (std.quo n 10).toNat)) (bsZ (zdg (std.rem n 10).toNat)))) = _
          rw [hq, hr, hl1, hl2, c1, hstep (by omega)]
  exact key (n.toNat + 1) n h1 h0 (by omega)
end Go.Proofs.YtaklahcbeldbhaaGreatDoor
namespace Go.Proofs.YtaklahcbeldbhaaGreatDoor
open Go.RowKit Go.Lib
def zvN (w : List UInt8) : Int := ((zvP w).getD 0 : Nat)
def zvB (w : List UInt8) : Bool := (zvP w).isSome
def zvA (w : List UInt8) : AV := .tup [.val (.int .i64 (zvN w)), .val (.bool (zvB w))]
def zno : AV := .tup [.val (.int .i64 0), .val (.bool false)]
theorem zvA_none {w : List UInt8} (h : zvP w = none) : zno = zvA w := by rw [zvA, zvN, zvB, h]; rfl
theorem zvA_some {w : List UInt8} {n : Nat} (h : zvP w = some n) : AV.tup [.val (.int .i64 n), .val (.bool true)] = zvA w := by rw [zvA, zvN, zvB, h]; rfl
theorem zwrap64 (x : Int) (h0 : -9223372036854775808 ≤ x) (h1 : x ≤ 9223372036854775807) : IntKind.wrap .i64 x = x := by
  rw [IntKind.wrap_i64]; omega
set_option maxRecDepth 20000 in
theorem zvalue_b (w : List UInt8) (hw : w.length ≤ 1000000) : BCall Tryz.prog 16 [.val (.string (bsZ w))] [] (zvA w) [] := by
  have hE : std.eqS (bsZ w) ⟨#[]⟩ = decide (w = []) := bsZ_eq w []
  have hix := bsZ_idx w 0
  have hst : std.szS (bsZ w) = (w.length : Int) := by show ((bsZ w).size : Int) = _; rw [bsZ_size]
  have hit := fun p h => zitr_dig w p h
  have hmore : ∀ p, std.itmore (bsZ w) p = decide (p < w.length) := fun p => by show decide (p < (bsZ w).size) = _; rw [bsZ_size]
  generalize bsZ w = B at hE hix hst hit hmore ⊢
  obtain ⟨R, hR⟩ : ∃ R, R = zvA w := ⟨_, rfl⟩
  rw [← hR]
  have hno : zvP w = none → leA zno R := fun h => by rw [hR, ← zvA_none h]; exact leA_refl rfl
  have hyes : ∀ n : Nat, zvP w = some n → leA (.tup [.val (.int .i64 n), .val (.bool true)]) R := fun n h => by rw [hR, ← zvA_some h]; exact leA_refl rfl
  clear hR
  obtain ⟨n, hn⟩ := exLen w
  have hst : std.szS B = n := by rw [hst, hn.eq]
  have hn9 : n = w.length := hn.eq
  clear hw
  refine fnN (cs0) Tryz.func16 rfl fun _ _ => ?_
  with_reducible refine cv0 ?_
  refine ⟨fun h => .pure rfl ?_, fun h0 => ⟨fun h => .pure rfl ?_, fun h9 => ⟨fun h1 => ⟨?_, fun h => .pure rfl ?_, fun h48 => ?_⟩, fun h1 => ?_⟩⟩⟩
  · have h : std.eqS B ⟨#[]⟩ = true := h
    rw [hE] at h
    exact hno (by rw [zvP, if_pos (.inl (of_decide_eq_true h))])
  · have h : std.ltI 9 (std.szS B) = true := h
    rw [hst] at h
    have h : 9 < n := of_decide_eq_true h
    exact hno (by rw [zvP, if_pos (.inr (.inl (by omega)))])
  · have h1 : std.ltI 1 (std.szS B) = true := h1
    rw [hst] at h1
    have h1 : 1 < n := of_decide_eq_true h1
    show 0 ≤ (0 : Int) ∧ 0 < std.szS B
    rw [hst]; omega
  · have h1 : std.ltI 1 (std.szS B) = true := h1
    rw [hst] at h1
    have h1 : 1 < n := of_decide_eq_true h1
    have h : std.eqI (std.idxS B 0) 48 = true := h
    rw [hix] at h
    have h : ((w[(0 : Int).toNat]?.getD 0).toNat : Int) = 48 := of_decide_eq_true h
    have hl : 0 < w.length := by omega
    refine hno (by rw [zvP, if_pos (.inr (.inr ⟨by omega, ?_⟩))])
    rw [show (0 : Int).toNat = 0 from rfl, List.getElem?_eq_getElem hl] at h
    rw [List.getElem?_eq_getElem hl]
    have h : w[0].toNat = 48 := by
      simp only [Option.getD_some] at h
      omega
    exact congrArg some (UInt8.toNat_inj.1 h)
  all_goals
    have h9 : std.ltI 9 (std.szS B) = false := h9
    rw [hst] at h9
    have h9 : ¬ 9 < n := of_decide_eq_false h9
    have h0 : std.eqS B ⟨#[]⟩ = false := h0
    rw [hE] at h0
    have h0 : ¬ w = [] := of_decide_eq_false h0
  have hV : zvP w = zwor 0 w := by
    have h48 : std.eqI (std.idxS B 0) 48 = false := h48
    rw [hix] at h48
    have h48 : ¬ ((w[(0 : Int).toNat]?.getD 0).toNat : Int) = 48 := of_decide_eq_false h48
    rw [zvP, if_neg]
    rintro (h | h | ⟨_, h⟩)
    · exact h0 h
    · omega
    · rw [show (0 : Int).toNat = 0 from rfl, h] at h48
      exact h48 rfl
  clear h48
  rotate_left
  have hV : zvP w = zwor 0 w := by
    have h1 : std.ltI 1 (std.szS B) = false := h1
    rw [hst] at h1
    have h1 : ¬ 1 < n := of_decide_eq_false h1
    rw [zvP, if_neg]
    rintro (h | h | ⟨h, _⟩)
    · exact h0 h
    · omega
    · omega
  all_goals
    clear h1 h0 hE hix hst
    rw [hV] at hno hyes
    clear hV
    have hl9 : w.length ≤ 9 := by omega
    clear h9 hn9 hn
    refine loopN (cs0) (Nat × Nat) (fun x => ⟨[(0, .val (.string B)), (4, .val (.int .i64 x.2)), (25, .iter 0)], [.iter (.str B x.1)]⟩) (fun x => x.1 ≤ w.length ∧ x.2 < 10 ^ x.1 ∧ zwor x.2 (w.drop x.1) = zwor 0 w) (fun x => w.length - x.1) (0, 0) ?_ ?_ ?_
    · exact ⟨Nat.zero_le _, by decide, rfl⟩
    · refine ⟨[some 0], _, rfl, ?_⟩
      exact eq0
    · rintro ⟨p, m⟩ ⟨hp, hm, hJ⟩
      have hp : p ≤ w.length := hp
      have hm : m < 10 ^ p := hm
      have hJ : zwor m (w.drop p) = zwor 0 w := hJ
      have hmp := hmore p
      have hm9 : m < 1000000000 ∧ (p < 9 → m < 100000000) := by
        refine ⟨Nat.lt_of_lt_of_le hm (Nat.le_trans (Nat.pow_le_pow_right (by decide) (show p ≤ 9 by omega)) (by decide)), fun h => Nat.lt_of_lt_of_le hm (Nat.le_trans (Nat.pow_le_pow_right (by decide) (show p ≤ 8 by omega)) (by decide))⟩
      with_reducible refine cv0 ?_
      refine ⟨fun hmo => ?_, fun hmo => ?_⟩
      · have hmo : std.itmore B p = true := hmo
        rw [hmp] at hmo
        have hpl : p < w.length := of_decide_eq_true hmo
        obtain ⟨hd1, hd2⟩ := hit p hpl
        have hw1 := zwor_at w m p hpl
        rw [hJ] at hw1
        refine ⟨fun hlt => ?_, fun hlt => ⟨fun hgt => ?_, fun hgt => ?_⟩⟩
        · have hlt : std.ltI (std.itr B p) 48 = true := hlt
          have hlt : std.itr B p < 48 := of_decide_eq_true hlt
          have hnd : ¬ (48 ≤ w[p].toNat ∧ w[p].toNat ≤ 57) := fun h => by rw [(hd1 h).1] at hlt; omega
          rw [if_neg hnd] at hw1
          with_reducible refine cv0 ?_
          exact .pure rfl (hno hw1)
        · have hgt : std.ltI 57 (std.itr B p) = true := hgt
          have hgt : 57 < std.itr B p := of_decide_eq_true hgt
          have hnd : ¬ (48 ≤ w[p].toNat ∧ w[p].toNat ≤ 57) := fun h => by rw [(hd1 h).1] at hgt; omega
          rw [if_neg hnd] at hw1
          with_reducible refine cv0 ?_
          exact .pure rfl (hno hw1)
        · have hlt : std.ltI (std.itr B p) 48 = false := hlt
          have hlt : ¬ std.itr B p < 48 := of_decide_eq_false hlt
          have hgt : std.ltI 57 (std.itr B p) = false := hgt
          have hgt : ¬ 57 < std.itr B p := of_decide_eq_false hgt
          have hd : 48 ≤ w[p].toNat ∧ w[p].toNat ≤ 57 := by
            rcases Classical.em (48 ≤ w[p].toNat ∧ w[p].toNat ≤ 57) with h | h
            · exact h
            · rcases hd2 h with h | h
              · exact absurd h hlt
              · exact absurd h hgt
          obtain ⟨e1, e2⟩ := hd1 hd
          rw [if_pos hd] at hw1
          have hm8 := hm9.2 (by omega)
          have hadd : std.add (std.mul 10 (Int.ofNat m)) (std.wrap .i64 (std.sub (std.itr B p) 48)) = Int.ofNat (10 * m + (w[p].toNat - 48)) := by
            show 10 * (m : Int) + IntKind.wrap .i64 (std.itr B p - 48) = ((10 * m + (w[p].toNat - 48) : Nat) : Int)
            rw [e1, zwrap64 _ (by omega) (by omega)]; omega
          refine ⟨?_, ?_, ?_, (p + 1, 10 * m + (w[p].toNat - 48)), ⟨by omega, ?_, hw1.symm⟩, by omega, [some 0], _, rfl, ?_⟩
          · show -9223372036854775808 ≤ 10 * (m : Int) ∧ 10 * (m : Int) ≤ 9223372036854775807
            omega
          · show -2147483648 ≤ std.itr B p - 48 ∧ std.itr B p - 48 ≤ 2147483647
            rw [e1]; omega
          · show -9223372036854775808 ≤ std.add (std.mul 10 (Int.ofNat m)) (std.wrap .i64 (std.sub (std.itr B p) 48)) ∧ std.add (std.mul 10 (Int.ofNat m)) (std.wrap .i64 (std.sub (std.itr B p) 48)) ≤ 9223372036854775807
            rw [hadd]
            show -9223372036854775808 ≤ ((10 * m + (w[p].toNat - 48) : Nat) : Int) ∧ ((10 * m + (w[p].toNat - 48) : Nat) : Int) ≤ 9223372036854775807
            omega
          · show 10 * m + (w[p].toNat - 48) < 10 ^ (p + 1)
            rw [Nat.pow_succ]; omega
          · rw [← e2]
            have e3 : std.itp B p = p + 1 := e2
            exact eq1 hadd
      · have hmo : std.itmore B p = false := hmo
        rw [hmp] at hmo
        have hpl : ¬ p < w.length := of_decide_eq_false hmo
        rw [zwor_end w m p (by omega)] at hJ
        rw [if_pos trivial]
        with_reducible refine cv0 ?_
        exact .pure rfl (hyes m hJ.symm)
end Go.Proofs.YtaklahcbeldbhaaGreatDoor
namespace Go.Proofs.YtaklahcbeldbhaaGreatDoor
open Go.RowKit Go.Lib
theorem ztake_step {a b : List Int} {i : Nat} (ha : i < a.length) (hb : i < b.length) (h : a.take i = b.take i) : a.take (i + 1) = b.take (i + 1) ↔ a[i]?.getD 0 = b[i]?.getD 0 := by
  rw [List.take_add_one, List.take_add_one (l := b), h, List.getElem?_eq_getElem ha, List.getElem?_eq_getElem hb, List.append_cancel_left_eq]
  simp
set_option maxHeartbeats 2000000 in
theorem ZSame_b (a b : List Int) (ha : a.length ≤ 1000000) (hb : b.length ≤ 1000000) : BCall Tryz.prog 10 [.slc 1 (intsA a), .slc 1 (intsA b)] [] (.val (.bool (decide (a = b)))) [] := by
  obtain ⟨n, hn⟩ := exLen a
  obtain ⟨m, hm⟩ := exLen b
  have hla : std.len (intsA a) = n := by show ((intsA a).length : Int) = n; rw [ints_len, hn.eq]
  have hlb : std.len (intsA b) = m := by show ((intsA b).length : Int) = m; rw [ints_len, hm.eq]
  have hn9 : 0 ≤ n ∧ n ≤ 1000000 := by rw [hn.eq]; omega
  have hnm : n = m ↔ a.length = b.length := by rw [hn.eq, hm.eq]; omega
  have hat : ∀ i : Int, 0 ≤ i → i < n → std.nth (std.cel (std.at_ (intsA a) i)) 0 = .val (.int .i64 (a[i.toNat]?.getD 0)) := fun i h0 h1 => int_cell h0 (by rw [← hn.eq]; exact h1)
  have hbt : ∀ i : Int, 0 ≤ i → i < m → std.nth (std.cel (std.at_ (intsA b) i)) 0 = .val (.int .i64 (b[i.toNat]?.getD 0)) := fun i h0 h1 => int_cell h0 (by rw [← hm.eq]; exact h1)
  have hst : ∀ i : Int, 0 ≤ i → i < n → n = m → a.take i.toNat = b.take i.toNat → (a.take (i + 1).toNat = b.take (i + 1).toNat ↔ a[i.toNat]?.getD 0 = b[i.toNat]?.getD 0) := fun i h0 h1 h2 h3 => by
    have e1 := hn.eq
    have e2 := hm.eq
    rw [show (i + 1).toNat = i.toNat + 1 by omega]
    exact ztake_step (by omega) (by omega) h3
  have hall : n = m → a.take n.toNat = b.take n.toNat → a = b := fun h h2 => by
    have e1 := hn.eq
    have e2 := hm.eq
    rwa [List.take_of_length_le (by omega), List.take_of_length_le (by omega)] at h2
  obtain ⟨R, hR⟩ : ∃ R, R = decide (a = b) := ⟨_, rfl⟩
  rw [← hR]
  have hT : a = b → R = true := fun h => by rw [hR, h]; simp
  have hF : ¬ a = b → R = false := fun h => by rw [hR]; exact decide_eq_false h
  clear hR ha hb
  refine fnN (cs0) Tryz.func10 rfl fun _ _ => ?_
  with_reducible refine cv2 (intsA a) (intsA b) ?_
  refine ⟨fun h => ?_, fun h => ?_⟩
  · have h : (!(std.len (intsA a) == std.len (intsA b))) = true := h
    rw [hla, hlb] at h
    rw [hF (fun e => by have := hnm.2 (congrArg List.length e); simp [this] at h)]
    exact .pure rfl (.inl rfl)
  · have h : (!(std.len (intsA a) == std.len (intsA b))) = false := h
    rw [hla, hlb] at h
    have hnm : n = m := by simpa using h
    refine loopN (cs0) (Int) (fun i => ⟨[(0, .slc 1 (intsA a)), (1, .slc 1 (intsA b)), (12, .val (.int .i64 n)), (13, .val (.int .i64 i))], []⟩) (fun i => 0 ≤ i ∧ i ≤ n ∧ a.take i.toNat = b.take i.toNat) (fun i => (n - i).toNat) 0 ?_ ?_ ?_
    · exact ⟨Int.le_refl 0, hn9.1, by simp⟩
    · refine ⟨[], _, rfl, ?_⟩
      exact eq1 hla
    · rintro i ⟨hi0, hi1, hi⟩
      have hi0 : 0 ≤ i := hi0
      have hi1 : i ≤ n := hi1
      have hi : a.take i.toNat = b.take i.toNat := hi
      with_reducible refine cv2 (intsA a) (intsA b) ?_
      refine ⟨fun h2 => ?_, fun h2 => ?_⟩
      · have hin : i < n := of_decide_eq_true h2
        have hx := hat i hi0 hin
        have hy := hbt i hi0 (hnm ▸ hin)
        have hs := hst i hi0 hin hnm hi
        refine ⟨⟨hi0, by show i < std.len (intsA a); rw [hla]; exact hin⟩, ⟨has_int hx, trivial⟩, ⟨hi0, by show i < std.len (intsA b); rw [hlb, ← hnm]; exact hin⟩, ⟨has_int hy, trivial⟩, fun h3 => ?_, fun h3 => ?_⟩
        · have h3 : (!(std.int (std.nth (std.cel (std.at_ (intsA a) i)) 0) == std.int (std.nth (std.cel (std.at_ (intsA b) i)) 0))) = true := h3
          rw [int_of hx, int_of hy] at h3
          rw [hF (fun e => by rw [e] at h3; simp at h3)]
          with_reducible refine cv2 (intsA a) (intsA b) ?_
          exact .pure rfl (.inl rfl)
        · have h3 : (!(std.int (std.nth (std.cel (std.at_ (intsA a) i)) 0) == std.int (std.nth (std.cel (std.at_ (intsA b) i)) 0))) = false := h3
          rw [int_of hx, int_of hy] at h3
          refine ⟨?_, i + 1, ⟨by omega, by omega, hs.2 (by simpa using h3)⟩, by omega, [], _, rfl, ?_⟩
          · show std.inR .i64 (i + 1)
            rw [inR64]; omega
          · exact eq0
      · have hin : i = n := by
          have h2 : ¬ i < n := of_decide_eq_false h2
          omega
        rw [hin] at hi
        rw [hT (hall hnm hi), if_pos trivial]
        with_reducible refine cv2 (intsA a) (intsA b) ?_
        exact .pure rfl (.inl rfl)
end Go.Proofs.YtaklahcbeldbhaaGreatDoor
