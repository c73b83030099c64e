/-
  Parts of the proof, joined: Tk TagA. Conditions: as each theorem says.
-/
import Derived.Test.YtblafdmmebiagaaQA13
import Derived.Test.YtblafdmmebiagaaQA10
namespace Go.Proofs.Ytblafdmmebiagaa
open Go.RowKit Go.Lib
def toksA (l : List Tok) : List AV := l.map Tok.av
theorem toks_len (l : List Tok) : (toksA l).length = l.length := by simp [toksA]
theorem toks_app (a b : List Tok) : toksA (a ++ b) = toksA a ++ toksA b := by simp [toksA]
theorem toks_one (t : Tok) : toksA [t] = [.agg [.val (.int .i64 t.kind), .val (.int .i64 t.from_), .val (.int .i64 t.to), .val (.bool t.whole)]] := rfl
def tkOf (t : (Nat × Nat × Bool) × Nat) : Tok := ⟨t.1.1, t.2, t.1.2.1, t.1.2.2⟩
def toksGo (l : List Int) (k : Nat) : List Tok := (tokensGo l k).map tkOf
def toksF (l : List Int) : List Tok := toksGo l 0
theorem toksGo_cons {l : List Int} {k : Nat} (h : k < l.length) : toksGo l k = tokAt l k :: toksGo l (nextTF l k).2.1 := by
  rw [toksGo, tokensGo_cons l k h]; rfl
theorem toksGo_nil {l : List Int} {k : Nat} (h : ¬ k < l.length) : toksGo l k = [] := by rw [toksGo, tokensGo_nil l k h]; rfl
def nextTk (l : List Int) (k : Int) : Tok := if 0 ≤ k ∧ k < l.length then tokAt l k.toNat else ⟨0, 0, 0, false⟩
def nextOk (l : List Int) (k : Int) : Bool := decide (0 ≤ k ∧ k < l.length)
theorem Next_all (l : List Int) (hl : l.length ≤ 1000000000) (k : Int) (h0 : 0 ≤ k) : BCall Try.prog 67 [.slc 1 (runesA l), .val (.int .i64 k)] [] (.tup [.agg [.val (.int .i64 (nextTk l k).kind), .val (.int .i64 (nextTk l k).from_), .val (.int .i64 (nextTk l k).to), .val (.bool (nextTk l k).whole)], .val (.bool (nextOk l k))]) [] := by
  by_cases h : k < l.length
  · rw [nextTk, if_pos ⟨h0, h⟩, nextOk, decide_eq_true ⟨h0, h⟩]
    exact Next_b l hl k h0 h
  · have : ¬ (0 ≤ k ∧ k < l.length) := fun x => h x.2
    rw [nextTk, if_neg this, nextOk, decide_eq_false this]
    exact NextEnd_b l k h0 (by omega)
def csN (kd fr to : Int → Int) (wh ok : Int → Bool) : Nat → List AV → List Ob → Option (AV × List Ob) := fun f args _ => match f, args with
  | 67, [.slc 1 _, .val (.int .i64 k)] => some (.tup [.agg [.val (.int .i64 (kd k)), .val (.int .i64 (fr k)), .val (.int .i64 (to k)), .val (.bool (wh k))], .val (.bool (ok k))], [])
  | _, _ => none
set_option maxRecDepth 20000 in
set_option maxHeartbeats 2000000 in
theorem Tokens_b (l : List Int) (hl : l.length ≤ 1000000) : BCall Try.prog 49 [.slc 1 (runesA l)] [] (.slc 4 (toksA (toksF l))) [] := by
  have hNx := fun k h0 => Next_all l (by omega) k h0
  obtain ⟨kd, hkd⟩ : ∃ kd : Int → Int, kd = fun k => (nextTk l k).kind := ⟨_, rfl⟩
  obtain ⟨fr, hfr⟩ : ∃ fr : Int → Int, fr = fun k => (nextTk l k).from_ := ⟨_, rfl⟩
  obtain ⟨to, hto⟩ : ∃ to : Int → Int, to = fun k => (nextTk l k).to := ⟨_, rfl⟩
  obtain ⟨wh, hwh⟩ : ∃ wh : Int → Bool, wh = fun k => (nextTk l k).whole := ⟨_, rfl⟩
  obtain ⟨ok, hok⟩ : ∃ ok : Int → Bool, ok = nextOk l := ⟨_, rfl⟩
  have hNx : ∀ k, 0 ≤ k → BCall Try.prog 67 [.slc 1 (runesA l), .val (.int .i64 k)] [] (.tup [.agg [.val (.int .i64 (kd k)), .val (.int .i64 (fr k)), .val (.int .i64 (to k)), .val (.bool (wh k))], .val (.bool (ok k))]) [] := fun k h0 => by rw [hkd, hfr, hto, hwh, hok]; exact hNx k h0
  obtain ⟨n, hn⟩ := exLen l
  have hstep : ∀ k : Int, 0 ≤ k → k < n → to k = ((nextTF l k.toNat).2.1 : Nat) ∧ k < to k ∧ to k ≤ n ∧ tokAt l k.toNat = ⟨kd k, fr k, to k, wh k⟩ ∧ ok k = true := fun k h0 h1 => by
    have e := hn.eq
    have h2 : nextTk l k = tokAt l k.toNat := by rw [nextTk, if_pos ⟨h0, by omega⟩]
    have h3 := nextTF_range l k.toNat (by omega)
    have h4 : to k = ((nextTF l k.toNat).2.1 : Nat) := by rw [hto]; simp only [h2]; rfl
    refine ⟨h4, by omega, by omega, ?_, ?_⟩
    · rw [hkd, hfr, hto, hwh]; simp only [h2]
    · rw [hok]; simp [nextOk]; omega
  have hend : ∀ k : Int, 0 ≤ k → ¬ k < n → ok k = false := fun k h0 h1 => by
    have e := hn.eq
    rw [hok]; simp [nextOk]; omega
  clear hkd hfr hto hwh hok
  refine bcall_of (cs := csN kd fr to wh ok) (ord := fun _ => .nil) tyOk (by kernel_rfl) Try.func49 rfl (enters_of Try.func49 (by kernel_rfl) rfl) (Nat.le_of_ble_eq_true rfl) (by kernel_rfl) (by kernel_rfl) ?_
  intro w0 g0
  generalize hp : std = p
  generalize hrs : runesA l = rs
  generalize hT : aexec p tys (csN kd fr to wh ok) _ _ _ _ = T
  cbv at hT
  subst hT
  simp only [Tree.ok, RoundOk, Bool.false_eq_true, Bool.true_eq_false, false_implies, true_implies, and_true, true_and]
  subst hp hrs
  refine ⟨hNx 0 (by omega), ?_⟩
  refine loop_rule (cs := csN kd fr to wh ok) (ord := fun _ => .nil) tyOk (by kernel_rfl) (by kernel_rfl) (by kernel_rfl) (X := List Tok × Int) (fun x => ⟨[(0, .slc 1 (runesA l)), (3, .row 0 0), (4, .box 1 0), (5, .val (.bool (ok x.2)))], [.row 109 4 false 0 (toksA x.1), .box [.val (.int .i64 (kd x.2)), .val (.int .i64 (fr x.2)), .val (.int .i64 (to x.2)), .val (.bool (wh x.2))]]⟩) (fun x => 0 ≤ x.2 ∧ x.2 ≤ n ∧ x.1 ++ toksGo l x.2.toNat = toksF l ∧ (x.1.length : Int) ≤ x.2) (fun x => (n - x.2).toNat) ([], 0) ?_ ?_ ?_
  · have := hn.eq
    exact ⟨by omega, by simp only; omega, rfl, by simp⟩
  · exact ⟨[none, some 0], _, rfl, by simp [AllEq, lk, toksA]⟩
  · rintro ⟨out, k⟩ ⟨hJ0, hJ1, hJ2, hJ3⟩
    simp only at hJ0 hJ1 hJ2 hJ3
    have hol := toks_len out
    have en := hn.eq
    have hbd : out.length ≤ 1000000 := by omega
    obtain ⟨q, hq⟩ := exLen out
    have hJ4 : q ≤ k := by rw [hq.eq]; exact hJ3
    clear en
    by_cases hk : k < n
    · obtain ⟨s1, s2, s3, s4, s5⟩ := hstep k hJ0 hk
      have s6 := hNx (to k) (by omega)
      have en := hn.eq
      have hG : out ++ [⟨kd k, fr k, to k, wh k⟩] ++ toksGo l (to k).toNat = toksF l := by
        rw [← hJ2, toksGo_cons (k := k.toNat) (by omega), s4, s1, Int.toNat_natCast]; simp
      clear s1 en
      generalize hp : std = p
      generalize hrs : runesA l = rs
      generalize ho : toksA out = o
      generalize hT : aexec p tys (csN kd fr to wh ok) _ _ _ _ = T
      cbv at hT
      subst hT
      simp only [Tree.ok, RoundOk, Bool.false_eq_true, Bool.true_eq_false, false_implies, true_implies, and_true, true_and]
      subst hp hrs ho
      have eq := hq.eq
      repeat' first
        | (with_reducible refine And.intro (fun hx => absurd hx (by (first | (simp [std, allP, AV.cells, intOf, booOf, lstOf, hol, s5, s6]; done) | (simp [std, allP, AV.cells, intOf, booOf, lstOf, hol, s5, s6]; omega) | (refine (inR64 _).2 ?_; (try simp [std, AV.cells, intOf, booOf, lstOf, hol, s5, s6]); omega) | (refine (inR32 _).2 ?_; (try simp [std, AV.cells, intOf, booOf, lstOf, hol, s5, s6]); omega) | omega))) (fun _ => ?_))
        | (with_reducible refine And.intro (fun _ => ?_) (fun hx => absurd hx (by (first | (simp [std, allP, AV.cells, intOf, booOf, lstOf, hol, s5, s6]; done) | (simp [std, allP, AV.cells, intOf, booOf, lstOf, hol, s5, s6]; omega) | (refine (inR64 _).2 ?_; (try simp [std, AV.cells, intOf, booOf, lstOf, hol, s5, s6]); omega) | (refine (inR32 _).2 ?_; (try simp [std, AV.cells, intOf, booOf, lstOf, hol, s5, s6]); omega) | omega))))
        | (with_reducible refine And.intro (by (first | (simp [std, allP, AV.cells, intOf, booOf, lstOf, hol, s5, s6]; done) | (simp [std, allP, AV.cells, intOf, booOf, lstOf, hol, s5, s6]; omega) | (refine (inR64 _).2 ?_; (try simp [std, AV.cells, intOf, booOf, lstOf, hol, s5, s6]); omega) | (refine (inR32 _).2 ?_; (try simp [std, AV.cells, intOf, booOf, lstOf, hol, s5, s6]); omega) | omega)) ?_)
        | (with_reducible refine And.intro ?_ ?_)
        | (with_reducible intro hb)
      exact ⟨(out ++ [⟨kd k, fr k, to k, wh k⟩], to k), ⟨by simp only; omega, s3, hG, by show ((out ++ [_]).length : Int) ≤ to k; simp only [List.length_append, List.length_singleton]; omega⟩, by simp only; omega, [some 0, some 3], _, rfl, by simp [AllEq, lk, std, toks_app, toks_one]⟩
    · have s5 := hend k hJ0 hk
      have en := hn.eq
      have hG : out = toksF l := by rw [← hJ2, toksGo_nil (by omega), List.append_nil]
      clear en
      generalize hp : std = p
      generalize hrs : runesA l = rs
      generalize ho : toksA out = o
      generalize hT : aexec p tys (csN kd fr to wh ok) _ _ _ _ = T
      cbv at hT
      subst hT
      simp only [Tree.ok, RoundOk, Bool.false_eq_true, Bool.true_eq_false, false_implies, true_implies, and_true, true_and]
      subst hp hrs ho
      repeat' first
        | (with_reducible refine And.intro (fun hx => absurd hx (by (first | (simp [std, allP, AV.cells, intOf, booOf, lstOf, s5]; done) | (simp [std, allP, AV.cells, intOf, booOf, lstOf, s5]; omega) | (refine (inR64 _).2 ?_; (try simp [std, AV.cells, intOf, booOf, lstOf, s5]); omega) | (refine (inR32 _).2 ?_; (try simp [std, AV.cells, intOf, booOf, lstOf, s5]); omega) | omega))) (fun _ => ?_))
        | (with_reducible refine And.intro (fun _ => ?_) (fun hx => absurd hx (by (first | (simp [std, allP, AV.cells, intOf, booOf, lstOf, s5]; done) | (simp [std, allP, AV.cells, intOf, booOf, lstOf, s5]; omega) | (refine (inR64 _).2 ?_; (try simp [std, AV.cells, intOf, booOf, lstOf, s5]); omega) | (refine (inR32 _).2 ?_; (try simp [std, AV.cells, intOf, booOf, lstOf, s5]); omega) | omega))))
        | (with_reducible refine And.intro (by (first | (simp [std, allP, AV.cells, intOf, booOf, lstOf, s5]; done) | (simp [std, allP, AV.cells, intOf, booOf, lstOf, s5]; omega) | (refine (inR64 _).2 ?_; (try simp [std, AV.cells, intOf, booOf, lstOf, s5]); omega) | (refine (inR32 _).2 ?_; (try simp [std, AV.cells, intOf, booOf, lstOf, s5]); omega) | omega)) ?_)
        | (with_reducible refine And.intro ?_ ?_)
        | (with_reducible intro hb)
      rw [if_pos trivial]
      generalize hp : std = p
      generalize hrs : runesA l = rs
      generalize ho : toksA out = o
      generalize hT : aexec p tys (csN kd fr to wh ok) _ _ _ _ = T
      cbv at hT
      subst hT
      simp only [Tree.ok, RoundOk, Bool.false_eq_true, Bool.true_eq_false, false_implies, true_implies, and_true, true_and]
      subst hp hrs ho
      exact .pure rfl (.inl (by rw [hG]))
end Go.Proofs.Ytblafdmmebiagaa
namespace Go.Proofs.Ytblafdmmebiagaa
open Go.RowKit Go.Lib
def tvalF (l : List Int) : Int := if l.getD 0 0 = 34 ∨ l.getD 0 0 = 39 then (match (l.drop 1).findIdx? (· == l.getD 0 0) with | some k => k + 2 | none => 0) else 0
theorem tvalF_hit {l : List Int} {i : Int} (hq : l.getD 0 0 = 34 ∨ l.getD 0 0 = 39) (h1 : 1 ≤ i) (h2 : i < l.length) (h3 : ∀ j : Int, 1 ≤ j → j < i → l.getD j.toNat 0 ≠ l.getD 0 0) (h4 : l.getD i.toNat 0 = l.getD 0 0) : tvalF l = i + 1 := by
  have hk : i.toNat - 1 < (l.drop 1).length := by simp; omega
  have e : (l.drop 1).findIdx? (· == l.getD 0 0) = some (i.toNat - 1) := by
    rw [List.findIdx?_eq_some_iff_getElem]
    refine ⟨hk, ?_, fun j hj => ?_⟩
    · have h5 : 1 + (i.toNat - 1) = i.toNat := by omega
      have h6 : i.toNat < l.length := by omega
      simp only [List.getElem_drop, h5, beq_iff_eq]
      rw [← h4, List.getD_eq_getElem?_getD, List.getElem?_eq_getElem h6]; rfl
    · have h6 : j + 1 < l.length := by omega
      have h7 := h3 ((j + 1 : Nat) : Int) (by omega) (by omega)
      rw [Int.toNat_natCast, List.getD_eq_getElem?_getD, List.getElem?_eq_getElem h6] at h7
      simpa [List.getElem_drop] using h7
  simp only [tvalF, if_pos hq, e]
  omega
theorem tvalF_miss {l : List Int} (h3 : ∀ j : Int, 1 ≤ j → j < l.length → l.getD j.toNat 0 ≠ l.getD 0 0) : tvalF l = 0 := by
  have e : (l.drop 1).findIdx? (· == l.getD 0 0) = none := by
    rw [List.findIdx?_eq_none_iff]
    intro x hx
    obtain ⟨j, hj, rfl⟩ := List.mem_iff_getElem.1 hx
    have h6 : j + 1 < l.length := by simp at hj; omega
    have h7 := h3 ((j + 1 : Nat) : Int) (by omega) (by omega)
    rw [Int.toNat_natCast, List.getD_eq_getElem?_getD, List.getElem?_eq_getElem h6] at h7
    simpa [List.getElem_drop] using h7
  simp only [tvalF, e]
  split <;> rfl
theorem value_b (l : List Int) (hl : l ≠ []) (hmax : l.length ≤ 1000000000) : BCall Try.prog 87 [.slc 1 (runesA l)] [] (.val (.int .i64 (tvalF l))) [] := by
  refine bcall_of (cs := cs0) (ord := fun _ => .nil) tyOk (by kernel_rfl) Try.func87 rfl (enters_of Try.func87 (by kernel_rfl) rfl) (Nat.le_of_ble_eq_true rfl) (by kernel_rfl) (by kernel_rfl) ?_
  intro w0 g0
  generalize hp : std = p
  generalize hx : runesA l = xs
  generalize hT : aexec p tys cs0 _ _ _ _ = T
  cbv at hT
  subst hT
  simp only [Tree.ok]
  subst hp hx
  have hpos : 0 < l.length := List.length_pos_iff.2 hl
  have hlen := runes_len l
  have a0 : (runesA l)[0]?.getD .dead = .val (.int .i32 (l[0]?.getD 0)) := runes_at (i := 0) (Int.le_refl 0) (by omega)
  refine ⟨?_, ?_, fun h1 => ⟨?_, ?_, fun h2 => .pure rfl (.inl ?_), fun h2 => ?_⟩, fun h1 => ?_⟩
  · simp [std, hlen, hpos]
  · simp [std, allP, a0, AV.cells, intOf]
  · simp [std, hlen, hpos]
  · simp [std, allP, a0, AV.cells, intOf]
  · simp [std, a0, AV.cells, intOf] at h1 h2
    simp [tvalF, h1, h2]
  all_goals
    have hq : l.getD 0 0 = 34 ∨ l.getD 0 0 = 39 := by
      first
        | (simp [std, a0, AV.cells, intOf] at h2; exact .inr h2)
        | (simp [std, a0, AV.cells, intOf] at h1; exact .inl h1)
    refine loop_rule (cs := cs0) (ord := fun _ => .nil) tyOk (by kernel_rfl) (by kernel_rfl) (by kernel_rfl) (X := Int) (fun i => ⟨[(0, .slc 1 (runesA l)), (3, .val (.int .i64 i))], []⟩)
      (fun i => 1 ≤ i ∧ i ≤ l.length ∧ ∀ j : Int, 1 ≤ j → j < i → l.getD j.toNat 0 ≠ l.getD 0 0) (fun i => (l.length - i).toNat) 1 ⟨by omega, by omega, fun j h1 h2 => by omega⟩ ⟨[], _, rfl, ?_⟩ ?_
    · exact ⟨rfl, rfl, trivial⟩
    · rintro i ⟨hi1, hi2, hi3⟩
      clear h1
      generalize hp : std = p
      generalize hx : runesA l = xs
      generalize hT : aexec p tys cs0 _ _ _ _ = T
      cbv at hT
      subst hT
      simp only [Tree.ok, RoundOk]
      subst hp hx
      refine ⟨fun h1 => ?_, fun h1 => ?_⟩
      · have h1 : i < l.length := by simpa [std, hlen] using h1
        have ai := runes_at (l := l) (i := i) (by omega) h1
        refine ⟨?_, ?_, ?_, ?_, fun h2 => ⟨?_, ?_⟩, fun h2 => ⟨?_, i + 1, ⟨?_, ?_, fun j h3 h4 => ?_⟩, ?_, [], _, rfl, ?_⟩⟩
        · simp [std, hlen]; omega
        · simp [std, allP, ai, AV.cells, intOf]
        · simp [std, hlen, hpos]
        · simp [std, allP, a0, AV.cells, intOf]
        · show (-9223372036854775808 : Int) ≤ _ ∧ _ ≤ (9223372036854775807 : Int)
          simp [std]; omega
        · generalize hp : std = p
          generalize hx : runesA l = xs
          generalize hT : endK p tys _ _ _ _ = T
          cbv at hT
          subst hT
          subst hp hx
          refine FinOk.pure rfl (.inl ?_)
          have e : l.getD i.toNat 0 = l.getD 0 0 := by simpa [std, ai, a0, AV.cells, intOf] using h2
          rw [tvalF_hit hq hi1 h1 hi3 e]
          rfl
        · show (-9223372036854775808 : Int) ≤ _ ∧ _ ≤ (9223372036854775807 : Int)
          simp [std]; omega
        · show (1 : Int) ≤ i + 1
          omega
        · show i + 1 ≤ (l.length : Int)
          omega
        · by_cases hji : j = i
          · subst hji
            simpa [std, ai, a0, AV.cells, intOf] using h2
          · exact hi3 j h3 (by omega)
        · show ((l.length : Int) - (i + 1)).toNat < ((l.length : Int) - i).toNat
          omega
        · exact ⟨rfl, rfl, trivial⟩
      · have h1 : ¬ i < l.length := by simpa [std, hlen] using h1
        generalize hp : std = p
        generalize hx : runesA l = xs
        generalize hT : aexec p tys cs0 _ _ _ _ = T
        cbv at hT
        subst hT hp hx
        rw [if_pos trivial]
        refine FinOk.pure rfl (.inl ?_)
        rw [tvalF_miss (l := l) (fun j h3 h4 => hi3 j h3 (Int.lt_of_lt_of_le h4 (Int.not_lt.1 h1)))]
end Go.Proofs.Ytblafdmmebiagaa
