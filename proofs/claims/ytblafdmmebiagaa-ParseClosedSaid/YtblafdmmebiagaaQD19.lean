/-
  Parts of the proof, joined: Sx Tk. Conditions: as each theorem says.
-/
import Derived.Test.YtblafdmmebiagaaQD07
import Derived.Test.YtblafdmmebiagaaQD18
import Derived.Test.YtblafdmmebiagaaQD04
namespace Go.Proofs.Ytblafdmmebiagaa
open Go.RowKit Go.Lib
section
variable {w : World} {g : Gh} {v : Value}
theorem runes_rd {l : List Int} (h : ARel1 w g [] v (.slc 1 (runesA l))) (M : Mem w g []) : ∃ A c, v = .slice A l.length c ∧ Rd w (fun _ => True) 1 A l.length c (rc l) := by
  obtain ⟨A, c, ys, h1, h2, h3⟩ := argRd h M
  have e : runesA l = (rc l).map .val := by simp [runesA, rc, runeA]
  rw [e, flatVals] at h3
  obtain rfl := alikeVals h3
  rw [runes_len] at h1 h2
  exact ⟨A, c, h1, h2⟩
theorem bytes_rd {l : List UInt8} (h : ARel1 w g [] v (.slc 1 (bytesA l))) (M : Mem w g []) : ∃ A c, v = .slice A l.length c ∧ Rd w (fun _ => True) 1 A l.length c (bc l) := by
  obtain ⟨A, c, ys, h1, h2, h3⟩ := argRd h M
  have e : bytesA l = (bc l).map .val := by simp [bytesA, bc, byteA]
  rw [e, flatVals] at h3
  obtain rfl := alikeVals h3
  rw [bytes_len] at h1 h2
  exact ⟨A, c, h1, h2⟩
end
theorem Run_b (l : List Int) (from_ : Int) (p : Int → Bool) (f : Nat) (ef : ∀ args w, (callFunc f args).run Try.prog w = .ok (.enter f args) w) (hp : ∀ w, PredOk Try.prog f #[] p w) :
    BCall Try.prog 81 [.slc 1 (runesA l), .val (.int .i64 from_), .val (.func (.func f) #[] #[])] [] (.val (.int .i64 (runF p l from_))) [] := by
  refine BCall.hand (enters_of Try.func81 (by kernel_rfl) rfl) fun w g vs M hL => ?_
  obtain ⟨v1, vs1, rfl, h1, hL⟩ := argsCons hL
  obtain ⟨v2, vs2, rfl, h2, hL⟩ := argsCons hL
  obtain ⟨v3, vs3, rfl, h3, hL⟩ := argsCons hL
  obtain rfl := argsNil hL
  obtain ⟨A, c, rfl, hr⟩ := runes_rd h1 M
  obtain rfl := argVal h2
  obtain rfl := argVal h3
  exact (Run_any _ A _ c l from_ f #[] p w ef hr (hp w)).mono fun e w' ⟨h, hb⟩ => ⟨_, h, hb, PRel.val _ rfl⟩
theorem Lead_b (l : List Int) (k : Int) (h0 : 0 ≤ k) (hk : k ≤ 1000000000) : BCall Try.prog 86 [.slc 1 (runesA l), .val (.int .i64 k)] [] (.val (.int .i64 (leadF l k.toNat))) [] := by
  refine BCall.hand (enters_of Try.func86 (by kernel_rfl) rfl) fun w g vs M hL => ?_
  obtain ⟨v1, vs1, rfl, h1, hL⟩ := argsCons hL
  obtain ⟨v2, vs2, rfl, h2, hL⟩ := argsCons hL
  obtain rfl := argsNil hL
  obtain ⟨A, c, rfl, hr⟩ := runes_rd h1 M
  obtain rfl := argVal h2
  have := NLead_any _ A _ c l k.toNat w hr (by omega)
  rw [Int.toNat_of_nonneg h0] at this
  exact this.mono fun e w' ⟨h, hb⟩ => ⟨_, h, hb, PRel.val _ rfl⟩
theorem Starts_b (l : List Int) (hl : l.length ≤ 1000000000) (k : Int) (h0 : 0 ≤ k) (hk : k ≤ l.length) (s : ByteArray) (hs : s.size ≤ 1000000000) : BCall Try.prog 88 [.slc 1 (runesA l), .val (.int .i64 k), .val (.string s)] [] (.val (.bool (startsF l k.toNat s.data.toList))) [] := by
  refine BCall.hand (enters_of Try.func88 (by kernel_rfl) rfl) fun w g vs M hL => ?_
  obtain ⟨v1, vs1, rfl, h1, hL⟩ := argsCons hL
  obtain ⟨v2, vs2, rfl, h2, hL⟩ := argsCons hL
  obtain ⟨v3, vs3, rfl, h3, hL⟩ := argsCons hL
  obtain rfl := argsNil hL
  obtain ⟨A, c, rfl, hr⟩ := runes_rd h1 M
  obtain rfl := argVal h2
  obtain rfl := argVal h3
  have := Starts_any _ A _ c l k.toNat s w hr (by omega) hl hs
  rw [Int.toNat_of_nonneg h0] at this
  exact this.mono fun e w' ⟨h, hb⟩ => ⟨_, h, hb, PRel.val _ rfl⟩
structure Tok where
  kind : Int
  from_ : Int
  to : Int
  whole : Bool
  deriving Inhabited
def Tok.av (t : Tok) : AV := .agg [.val (.int .i64 t.kind), .val (.int .i64 t.from_), .val (.int .i64 t.to), .val (.bool t.whole)]
def tokAt (l : List Int) (k : Nat) : Tok := ⟨(nextTF l k).1, k, (nextTF l k).2.1, (nextTF l k).2.2⟩
theorem Next_b (l : List Int) (hl : l.length ≤ 1000000000) (k : Int) (h0 : 0 ≤ k) (hk : k < l.length) : BCall Try.prog 67 [.slc 1 (runesA l), .val (.int .i64 k)] [] (.tup [(tokAt l k.toNat).av, .val (.bool true)]) [] := by
  refine BCall.hand (enters_of Try.func67 (by kernel_rfl) rfl) fun w g vs M hL => ?_
  obtain ⟨v1, vs1, rfl, h1, hL⟩ := argsCons hL
  obtain ⟨v2, vs2, rfl, h2, hL⟩ := argsCons hL
  obtain rfl := argsNil hL
  obtain ⟨A, c, rfl, hr⟩ := runes_rd h1 M
  obtain rfl := argVal h2
  have := NextT_any _ A _ c l k.toNat w hr (by omega) hl
  rw [Int.toNat_of_nonneg h0] at this
  refine this.mono fun e w' ⟨h, hb⟩ => ⟨_, h, hb, _, rfl, rfl, fun j y u hy hu => ?_⟩
  match j, hy, hu with
  | 0, hy, hu =>
    obtain rfl : tokV (nextTF l k.toNat) k.toNat = y := by simpa using hy
    obtain rfl : (tokAt l k.toNat).av = u := by simpa using hu
    refine ⟨_, rfl, rfl, fun i y u hy hu => ?_⟩
    match i, hy, hu with
    | 0, hy, hu => cases hy; cases hu; exact ⟨PRel.val _ rfl, rfl⟩
    | 1, hy, hu => cases hy; cases hu; exact ⟨PRel.val _ rfl, rfl⟩
    | 2, hy, hu => cases hy; cases hu; exact ⟨PRel.val _ rfl, rfl⟩
    | 3, hy, hu => cases hy; cases hu; exact ⟨PRel.val _ rfl, rfl⟩
    | i + 4, hy, hu => simp at hy
  | 1, hy, hu =>
    obtain rfl : Value.bool true = y := by simpa using hy
    obtain rfl : AV.val (.bool true) = u := by simpa using hu
    exact PRel.val _ rfl
  | j + 2, hy, hu => simp at hy
set_option maxRecDepth 20000 in
theorem NextEnd_b (l : List Int) (k : Int) (h0 : 0 ≤ k) (hk : (l.length : Int) ≤ k) : BCall Try.prog 67 [.slc 1 (runesA l), .val (.int .i64 k)] [] (.tup [.agg [.val (.int .i64 0), .val (.int .i64 0), .val (.int .i64 0), .val (.bool false)], .val (.bool false)]) [] := by
  obtain ⟨n, hn⟩ := exLen l
  have hk' : n ≤ k := by rw [hn.eq]; exact hk
  refine bcall_of (cs := cs0) (ord := fun _ => .nil) tyOk (by kernel_rfl) Try.func67 rfl (enters_of Try.func67 (by kernel_rfl) rfl) (Nat.le_of_ble_eq_true rfl) (by kernel_rfl) (by kernel_rfl) ?_
  intro w0 g0
  generalize hp : std = p
  generalize hrs : runesA l = rs
  generalize hT : aexec p tys (cs0) _ _ _ _ = T
  cbv at hT
  subst hT
  simp only [Tree.ok, RoundOk, Bool.false_eq_true, Bool.true_eq_false, false_implies, true_implies, and_true, true_and]
  subst hp hrs
  have en := hn.eq
  have hrl := runes_len l
  repeat' first
    | (with_reducible refine And.intro (fun hx => absurd hx (by (first | (simp [std, allP, AV.cells, intOf, booOf, lstOf, hrl, h0]; done) | (simp [std, allP, AV.cells, intOf, booOf, lstOf, hrl, h0]; omega) | (refine (inR64 _).2 ?_; (try simp [std, AV.cells, intOf, booOf, lstOf, hrl, h0]); omega) | (refine (inR32 _).2 ?_; (try simp [std, AV.cells, intOf, booOf, lstOf, hrl, h0]); omega) | omega))) (fun _ => ?_))
    | (with_reducible refine And.intro (fun _ => ?_) (fun hx => absurd hx (by (first | (simp [std, allP, AV.cells, intOf, booOf, lstOf, hrl, h0]; done) | (simp [std, allP, AV.cells, intOf, booOf, lstOf, hrl, h0]; omega) | (refine (inR64 _).2 ?_; (try simp [std, AV.cells, intOf, booOf, lstOf, hrl, h0]); omega) | (refine (inR32 _).2 ?_; (try simp [std, AV.cells, intOf, booOf, lstOf, hrl, h0]); omega) | omega))))
    | (with_reducible refine And.intro (by (first | (simp [std, allP, AV.cells, intOf, booOf, lstOf, hrl, h0]; done) | (simp [std, allP, AV.cells, intOf, booOf, lstOf, hrl, h0]; omega) | (refine (inR64 _).2 ?_; (try simp [std, AV.cells, intOf, booOf, lstOf, hrl, h0]); omega) | (refine (inR32 _).2 ?_; (try simp [std, AV.cells, intOf, booOf, lstOf, hrl, h0]); omega) | omega)) ?_)
    | (with_reducible refine And.intro ?_ ?_)
    | (with_reducible intro hb)
  exact .pure rfl ⟨⟨.inl rfl, .inl rfl, .inl rfl, .inl rfl, trivial⟩, .inl rfl, trivial⟩
end Go.Proofs.Ytblafdmmebiagaa
namespace Go.Proofs.Ytblafdmmebiagaa
open Go.RowKit Go.Lib
def toksA (l : List Tok) : List AV := l.map Tok.av
theorem toks_len (l : List Tok) : (toksA l).length = l.length := by simp [toksA]
theorem toks_app (a b : List Tok) : toksA (a ++ b) = toksA a ++ toksA b := by simp [toksA]
theorem toks_one (t : Tok) : toksA [t] = [.agg [.val (.int .i64 t.kind), .val (.int .i64 t.from_), .val (.int .i64 t.to), .val (.bool t.whole)]] := rfl
def tkOf (t : (Nat × Nat × Bool) × Nat) : Tok := ⟨t.1.1, t.2, t.1.2.1, t.1.2.2⟩
def toksGo (l : List Int) (k : Nat) : List Tok := (tokensGo l k).map tkOf
def toksF (l : List Int) : List Tok := toksGo l 0
theorem toksGo_cons {l : List Int} {k : Nat} (h : k < l.length) : toksGo l k = tokAt l k :: toksGo l (nextTF l k).2.1 := by
  rw [toksGo, tokensGo_cons l k h]; rfl
theorem toksGo_nil {l : List Int} {k : Nat} (h : ¬ k < l.length) : toksGo l k = [] := by rw [toksGo, tokensGo_nil l k h]; rfl
def nextTk (l : List Int) (k : Int) : Tok := if 0 ≤ k ∧ k < l.length then tokAt l k.toNat else ⟨0, 0, 0, false⟩
def nextOk (l : List Int) (k : Int) : Bool := decide (0 ≤ k ∧ k < l.length)
theorem Next_all (l : List Int) (hl : l.length ≤ 1000000000) (k : Int) (h0 : 0 ≤ k) : BCall Try.prog 67 [.slc 1 (runesA l), .val (.int .i64 k)] [] (.tup [.agg [.val (.int .i64 (nextTk l k).kind), .val (.int .i64 (nextTk l k).from_), .val (.int .i64 (nextTk l k).to), .val (.bool (nextTk l k).whole)], .val (.bool (nextOk l k))]) [] := by
  by_cases h : k < l.length
  · rw [nextTk, if_pos ⟨h0, h⟩, nextOk, decide_eq_true ⟨h0, h⟩]
    exact Next_b l hl k h0 h
  · have : ¬ (0 ≤ k ∧ k < l.length) := fun x => h x.2
    rw [nextTk, if_neg this, nextOk, decide_eq_false this]
    exact NextEnd_b l k h0 (by omega)
def csN (kd fr to : Int → Int) (wh ok : Int → Bool) : Nat → List AV → List Ob → Option (AV × List Ob) := fun f args _ => match f, args with
  | 67, [.slc 1 _, .val (.int .i64 k)] => some (.tup [.agg [.val (.int .i64 (kd k)), .val (.int .i64 (fr k)), .val (.int .i64 (to k)), .val (.bool (wh k))], .val (.bool (ok k))], [])
  | _, _ => none
set_option maxRecDepth 20000 in
set_option maxHeartbeats 2000000 in
theorem Tokens_b (l : List Int) (hl : l.length ≤ 1000000) : BCall Try.prog 49 [.slc 1 (runesA l)] [] (.slc 4 (toksA (toksF l))) [] := by
  have hNx := fun k h0 => Next_all l (by omega) k h0
  obtain ⟨kd, hkd⟩ : ∃ kd : Int → Int, kd = fun k => (nextTk l k).kind := ⟨_, rfl⟩
  obtain ⟨fr, hfr⟩ : ∃ fr : Int → Int, fr = fun k => (nextTk l k).from_ := ⟨_, rfl⟩
  obtain ⟨to, hto⟩ : ∃ to : Int → Int, to = fun k => (nextTk l k).to := ⟨_, rfl⟩
  obtain ⟨wh, hwh⟩ : ∃ wh : Int → Bool, wh = fun k => (nextTk l k).whole := ⟨_, rfl⟩
  obtain ⟨ok, hok⟩ : ∃ ok : Int → Bool, ok = nextOk l := ⟨_, rfl⟩
  have hNx : ∀ k, 0 ≤ k → BCall Try.prog 67 [.slc 1 (runesA l), .val (.int .i64 k)] [] (.tup [.agg [.val (.int .i64 (kd k)), .val (.int .i64 (fr k)), .val (.int .i64 (to k)), .val (.bool (wh k))], .val (.bool (ok k))]) [] := fun k h0 => by rw [hkd, hfr, hto, hwh, hok]; exact hNx k h0
  obtain ⟨n, hn⟩ := exLen l
  have hstep : ∀ k : Int, 0 ≤ k → k < n → to k = ((nextTF l k.toNat).2.1 : Nat) ∧ k < to k ∧ to k ≤ n ∧ tokAt l k.toNat = ⟨kd k, fr k, to k, wh k⟩ ∧ ok k = true := fun k h0 h1 => by
    have e := hn.eq
    have h2 : nextTk l k = tokAt l k.toNat := by rw [nextTk, if_pos ⟨h0, by omega⟩]
    have h3 := nextTF_range l k.toNat (by omega)
    have h4 : to k = ((nextTF l k.toNat).2.1 : Nat) := by rw [hto]; simp only [h2]; rfl
    refine ⟨h4, by omega, by omega, ?_, ?_⟩
    · rw [hkd, hfr, hto, hwh]; simp only [h2]
    · rw [hok]; simp [nextOk]; omega
  have hend : ∀ k : Int, 0 ≤ k → ¬ k < n → ok k = false := fun k h0 h1 => by
    have e := hn.eq
    rw [hok]; simp [nextOk]; omega
  clear hkd hfr hto hwh hok
  refine bcall_of (cs := csN kd fr to wh ok) (ord := fun _ => .nil) tyOk (by kernel_rfl) Try.func49 rfl (enters_of Try.func49 (by kernel_rfl) rfl) (Nat.le_of_ble_eq_true rfl) (by kernel_rfl) (by kernel_rfl) ?_
  intro w0 g0
  generalize hp : std = p
  generalize hrs : runesA l = rs
  generalize hT : aexec p tys (csN kd fr to wh ok) _ _ _ _ = T
  cbv at hT
  subst hT
  simp only [Tree.ok, RoundOk, Bool.false_eq_true, Bool.true_eq_false, false_implies, true_implies, and_true, true_and]
  subst hp hrs
  refine ⟨hNx 0 (by omega), ?_⟩
  refine loop_rule (cs := csN kd fr to wh ok) (ord := fun _ => .nil) tyOk (by kernel_rfl) (by kernel_rfl) (by kernel_rfl) (X := List Tok × Int) (fun x => ⟨[(0, .slc 1 (runesA l)), (3, .row 0 0), (4, .box 1 0), (5, .val (.bool (ok x.2)))], [.row 109 4 false 0 (toksA x.1), .box [.val (.int .i64 (kd x.2)), .val (.int .i64 (fr x.2)), .val (.int .i64 (to x.2)), .val (.bool (wh x.2))]]⟩) (fun x => 0 ≤ x.2 ∧ x.2 ≤ n ∧ x.1 ++ toksGo l x.2.toNat = toksF l ∧ (x.1.length : Int) ≤ x.2) (fun x => (n - x.2).toNat) ([], 0) ?_ ?_ ?_
  · have := hn.eq
    exact ⟨by omega, by simp only; omega, rfl, by simp⟩
  · exact ⟨[none, some 0], _, rfl, by simp [AllEq, lk, toksA]⟩
  · rintro ⟨out, k⟩ ⟨hJ0, hJ1, hJ2, hJ3⟩
    simp only at hJ0 hJ1 hJ2 hJ3
    have hol := toks_len out
    have en := hn.eq
    have hbd : out.length ≤ 1000000 := by omega
    obtain ⟨q, hq⟩ := exLen out
    have hJ4 : q ≤ k := by rw [hq.eq]; exact hJ3
    clear en
    by_cases hk : k < n
    · obtain ⟨s1, s2, s3, s4, s5⟩ := hstep k hJ0 hk
      have s6 := hNx (to k) (by omega)
      have en := hn.eq
      have hG : out ++ [⟨kd k, fr k, to k, wh k⟩] ++ toksGo l (to k).toNat = toksF l := by
        rw [← hJ2, toksGo_cons (k := k.toNat) (by omega), s4, s1, Int.toNat_natCast]; simp
      clear s1 en
      generalize hp : std = p
      generalize hrs : runesA l = rs
      generalize ho : toksA out = o
      generalize hT : aexec p tys (csN kd fr to wh ok) _ _ _ _ = T
      cbv at hT
      subst hT
      simp only [Tree.ok, RoundOk, Bool.false_eq_true, Bool.true_eq_false, false_implies, true_implies, and_true, true_and]
      subst hp hrs ho
      have eq := hq.eq
      repeat' first
        | (with_reducible refine And.intro (fun hx => absurd hx (by (first | (simp [std, allP, AV.cells, intOf, booOf, lstOf, hol, s5, s6]; done) | (simp [std, allP, AV.cells, intOf, booOf, lstOf, hol, s5, s6]; omega) | (refine (inR64 _).2 ?_; (try simp [std, AV.cells, intOf, booOf, lstOf, hol, s5, s6]); omega) | (refine (inR32 _).2 ?_; (try simp [std, AV.cells, intOf, booOf, lstOf, hol, s5, s6]); omega) | omega))) (fun _ => ?_))
        | (with_reducible refine And.intro (fun _ => ?_) (fun hx => absurd hx (by (first | (simp [std, allP, AV.cells, intOf, booOf, lstOf, hol, s5, s6]; done) | (simp [std, allP, AV.cells, intOf, booOf, lstOf, hol, s5, s6]; omega) | (refine (inR64 _).2 ?_; (try simp [std, AV.cells, intOf, booOf, lstOf, hol, s5, s6]); omega) | (refine (inR32 _).2 ?_; (try simp [std, AV.cells, intOf, booOf, lstOf, hol, s5, s6]); omega) | omega))))
        | (with_reducible refine And.intro (by (first | (simp [std, allP, AV.cells, intOf, booOf, lstOf, hol, s5, s6]; done) | (simp [std, allP, AV.cells, intOf, booOf, lstOf, hol, s5, s6]; omega) | (refine (inR64 _).2 ?_; (try simp [std, AV.cells, intOf, booOf, lstOf, hol, s5, s6]); omega) | (refine (inR32 _).2 ?_; (try simp [std, AV.cells, intOf, booOf, lstOf, hol, s5, s6]); omega) | omega)) ?_)
        | (with_reducible refine And.intro ?_ ?_)
        | (with_reducible intro hb)
      exact ⟨(out ++ [⟨kd k, fr k, to k, wh k⟩], to k), ⟨by simp only; omega, s3, hG, by show ((out ++ [_]).length : Int) ≤ to k; simp only [List.length_append, List.length_singleton]; omega⟩, by simp only; omega, [some 0, some 3], _, rfl, by simp [AllEq, lk, std, toks_app, toks_one]⟩
    · have s5 := hend k hJ0 hk
      have en := hn.eq
      have hG : out = toksF l := by rw [← hJ2, toksGo_nil (by omega), List.append_nil]
      clear en
      generalize hp : std = p
      generalize hrs : runesA l = rs
      generalize ho : toksA out = o
      generalize hT : aexec p tys (csN kd fr to wh ok) _ _ _ _ = T
      cbv at hT
      subst hT
      simp only [Tree.ok, RoundOk, Bool.false_eq_true, Bool.true_eq_false, false_implies, true_implies, and_true, true_and]
      subst hp hrs ho
      repeat' first
        | (with_reducible refine And.intro (fun hx => absurd hx (by (first | (simp [std, allP, AV.cells, intOf, booOf, lstOf, s5]; done) | (simp [std, allP, AV.cells, intOf, booOf, lstOf, s5]; omega) | (refine (inR64 _).2 ?_; (try simp [std, AV.cells, intOf, booOf, lstOf, s5]); omega) | (refine (inR32 _).2 ?_; (try simp [std, AV.cells, intOf, booOf, lstOf, s5]); omega) | omega))) (fun _ => ?_))
        | (with_reducible refine And.intro (fun _ => ?_) (fun hx => absurd hx (by (first | (simp [std, allP, AV.cells, intOf, booOf, lstOf, s5]; done) | (simp [std, allP, AV.cells, intOf, booOf, lstOf, s5]; omega) | (refine (inR64 _).2 ?_; (try simp [std, AV.cells, intOf, booOf, lstOf, s5]); omega) | (refine (inR32 _).2 ?_; (try simp [std, AV.cells, intOf, booOf, lstOf, s5]); omega) | omega))))
        | (with_reducible refine And.intro (by (first | (simp [std, allP, AV.cells, intOf, booOf, lstOf, s5]; done) | (simp [std, allP, AV.cells, intOf, booOf, lstOf, s5]; omega) | (refine (inR64 _).2 ?_; (try simp [std, AV.cells, intOf, booOf, lstOf, s5]); omega) | (refine (inR32 _).2 ?_; (try simp [std, AV.cells, intOf, booOf, lstOf, s5]); omega) | omega)) ?_)
        | (with_reducible refine And.intro ?_ ?_)
        | (with_reducible intro hb)
      rw [if_pos trivial]
      generalize hp : std = p
      generalize hrs : runesA l = rs
      generalize ho : toksA out = o
      generalize hT : aexec p tys (csN kd fr to wh ok) _ _ _ _ = T
      cbv at hT
      subst hT
      simp only [Tree.ok, RoundOk, Bool.false_eq_true, Bool.true_eq_false, false_implies, true_implies, and_true, true_and]
      subst hp hrs ho
      exact .pure rfl (.inl (by rw [hG]))
end Go.Proofs.Ytblafdmmebiagaa
