/- Lemmas, conditions told -/
import Derived.Test.YtcmjijpofkoogaaGreatG11
set_option linter.unusedSimpArgs false
set_option linter.unusedVariables false
namespace Go.Proofs.YtcmjijpofkoogaaGreat
open Go.RowKit Go.Lib
theorem ofInt_nat (n : Nat) (h : n < 2 ^ 32) : (BitVec.ofInt 32 (n : Int)).toNat = n := by
  rw [BitVec.toNat_ofInt]
  omega
theorem wrap32 (n : Int) (h0 : -2147483648 ≤ n) (h1 : n ≤ 2147483647) : IntKind.wrap .i32 n = n := wrap_in .i32 n ⟨h0, h1⟩
theorem bits_or (a b : Nat) (ha : a < 256) (hb : b < 256) : bitsI .or .i32 ((a : Int) * 256) b = a * 256 + b := by
  have h1 : ((a : Int) * 256) = ((a * 256 : Nat) : Int) := by omega
  have h2 : (a * 256 ||| b : Nat) = a * 256 + b := by
    have := Nat.two_pow_add_eq_or_of_lt (i := 8) (b := b) (by omega) a
    rw [Nat.mul_comm a 256, ← this]
  show IntKind.wrap .i32 (((BitVec.ofInt 32 ((a : Int) * 256)) ||| (BitVec.ofInt 32 (b : Int))).toNat : Int) = _
  rw [BitVec.toNat_or, h1, ofInt_nat _ (by omega), ofInt_nat _ (by omega), h2, wrap32 _ (by omega) (by omega)]
  omega
theorem bits_and (u : Nat) (h : u < 65536) : bitsI .and .i32 (u : Int) 1023 = (u % 1024 : Nat) := by
  show IntKind.wrap .i32 (((BitVec.ofInt 32 (u : Int)) &&& (BitVec.ofInt 32 1023)).toNat : Int) = _
  rw [BitVec.toNat_and, ofInt_nat _ (by omega), show (BitVec.ofInt 32 1023).toNat = 2 ^ 10 - 1 from rfl, Nat.and_two_pow_sub_one_eq_mod, wrap32 _ (by omega) (by omega)]
set_option maxRecDepth 20000 in
theorem low_zero : ∀ r, r < 1024 → r &&& 4294966272 = 0 := by decide
theorem high_keep : ∀ q, q < 64 → (2 ^ 10 * q) &&& 4294966272 = 2 ^ 10 * q := by decide
theorem bits_not (u : Nat) (h : u < 65536) : bitsI .andNot .i32 (u : Int) 1023 = (u / 1024 * 1024 : Nat) := by
  show IntKind.wrap .i32 (((BitVec.ofInt 32 (u : Int)) &&& ~~~ (BitVec.ofInt 32 1023)).toNat : Int) = _
  have h1 : (u &&& 4294966272 : Nat) = u / 1024 * 1024 := by
    have h2 : 2 ^ 10 * (u / 1024) ||| (u % 1024) = u := by
      rw [← Nat.two_pow_add_eq_or_of_lt (i := 10) (b := u % 1024) (by omega) (u / 1024)]
      omega
    have h3 := low_zero (u % 1024) (by omega)
    have h4 := high_keep (u / 1024) (by omega)
    have h5 : (2 ^ 10 * (u / 1024) ||| (u % 1024)) &&& 4294966272 = u / 1024 * 1024 := by
      rw [Nat.and_or_distrib_right, h3, h4, Nat.or_zero]
      omega
    rw [h2] at h5
    exact h5
  rw [BitVec.toNat_and, ofInt_nat _ (by omega), show (~~~ (BitVec.ofInt 32 1023)).toNat = 4294966272 from rfl, h1, wrap32 _ (by omega) (by omega)]
def unitI (big : Bool) (x y : UInt8) : Int := if big then x.toNat * 256 + y.toNat else y.toNat * 256 + x.toNat
theorem wrap_byte (x : UInt8) : std.wrap .i32 (x.toNat : Int) = x.toNat := wrap32 _ (by omega) (by have := x.toNat_lt; omega)
theorem shl_byte (x : UInt8) : shlI .i32 (x.toNat : Int) 8 = (x.toNat : Int) * 256 := by
  show IntKind.wrap .i32 ((x.toNat : Int) * 2 ^ min (8 : Int).toNat 32) = _
  rw [show (2 : Int) ^ min (8 : Int).toNat 32 = 256 from rfl]
  have := x.toNat_lt
  exact wrap32 _ (by omega) (by omega)
set_option maxRecDepth 20000 in
theorem unit1_b (x y : UInt8) : BCall Tryz.prog 308 [byteA x, byteA y] [] (.val (.int .i32 (unitI true x y))) [] := by
  unfold byteA
  refine fnN (cs0) Tryz.func308 rfl fun _ _ => ?_
  with_reducible refine cv2 ((x.toNat : Int)) ((y.toNat : Int)) ?_
  refine ⟨by simp [std], .pure rfl (.inl ?_)⟩
  show AV.val (.int .i32 (bitsI .or .i32 (shlI .i32 (std.wrap .i32 (x.toNat : Int)) 8) (std.wrap .i32 (y.toNat : Int)))) = _
  rw [wrap_byte, wrap_byte, shl_byte, bits_or _ _ x.toNat_lt y.toNat_lt]
  rfl
set_option maxRecDepth 20000 in
theorem unit2_b (x y : UInt8) : BCall Tryz.prog 309 [byteA x, byteA y] [] (.val (.int .i32 (unitI false x y))) [] := by
  unfold byteA
  refine fnN (cs0) Tryz.func309 rfl fun _ _ => ?_
  with_reducible refine cv2 ((x.toNat : Int)) ((y.toNat : Int)) ?_
  refine ⟨by simp [std], .pure rfl (.inl ?_)⟩
  show AV.val (.int .i32 (bitsI .or .i32 (shlI .i32 (std.wrap .i32 (y.toNat : Int)) 8) (std.wrap .i32 (x.toNat : Int)))) = _
  rw [wrap_byte, wrap_byte, shl_byte, bits_or _ _ y.toNat_lt x.toNat_lt]
  rfl
set_option maxRecDepth 20000 in
theorem units_b (big : Bool) : BCall Tryz.prog 253 [.val (.bool big)] [] (.val (.func (.func (if big then 308 else 309)) #[] #[])) [] := by
  refine fnN (cs0) Tryz.func253 rfl fun _ _ => ?_
  with_reducible refine cv0 ?_
  exact ⟨fun h => .pure rfl (.inl (by rw [h]; rfl)), fun h => .pure rfl (.inl (by rw [h]; rfl))⟩
structure Itm where
  r : Int
  off : Int
  n : Int
  deriving Inhabited
def Itm.av (x : Itm) : AV := .agg [.val (.int .i32 x.r), .val (.int .i64 x.off), .val (.int .i64 x.n)]
def itmsA (l : List Itm) : List AV := l.map Itm.av
theorem itms_len (l : List Itm) : (itmsA l).length = l.length := by simp [itmsA]
theorem itms_app (a b : List Itm) : itmsA (a ++ b) = itmsA a ++ itmsA b := by simp [itmsA]
theorem itms_one (x : Itm) : itmsA [x] = [.agg [.val (.int .i32 x.r), .val (.int .i64 x.off), .val (.int .i64 x.n)]] := rfl
def stepW (big : Bool) (l : List UInt8) : Int × Int := match l with
  | [] => (-1, 0)
  | [_] => (-1, 1)
  | x :: y :: r =>
    let u := unitI big x y
    let one : Int × Int := if 55296 ≤ u ∧ u < 57344 then (-1, 2) else (u, 2)
    match r with
    | x2 :: y2 :: _ => if (55296 ≤ u ∧ u < 56320) ∧ (56320 ≤ unitI big x2 y2 ∧ unitI big x2 y2 < 57344) then (65536 + (u - 55296) * 1024 + (unitI big x2 y2 - 56320), 4) else one
    | _ => one
theorem stepW_n (big : Bool) (l : List UInt8) (h : l ≠ []) : 1 ≤ (stepW big l).2 ∧ (stepW big l).2 ≤ l.length := by
  unfold stepW
  match l, h with
  | [_], _ => simp
  | [x, y], _ => simp only; split <;> simp
  | [x, y, z], _ => simp only; split <;> simp
  | x :: y :: x2 :: y2 :: r, _ => simp only; split <;> (try split) <;> simp <;> omega
def wideF (big : Bool) (off : Int) (l : List UInt8) : List Itm :=
  if h : l = [] then [] else ⟨(stepW big l).1, off, (stepW big l).2⟩ :: wideF big (off + (stepW big l).2) (l.drop (stepW big l).2.toNat)
termination_by l.length
decreasing_by
  have := stepW_n big l h
  simp only [List.length_drop]
  omega
theorem unit_range (big : Bool) (x y : UInt8) : 0 ≤ unitI big x y ∧ unitI big x y < 65536 := by
  have := x.toNat_lt
  have := y.toNat_lt
  unfold unitI
  split <;> omega
theorem unit_b (big : Bool) (x y : UInt8) : BCall Tryz.prog (if big then 308 else 309) [byteA x, byteA y] [] (.val (.int .i32 (unitI big x y))) [] := by
  cases big
  · exact unit2_b x y
  · exact unit1_b x y
def csW (g : Nat) (unit : AV → AV → Int) : Nat → List AV → List Ob → Option (AV × List Ob) := fun _ args _ => match args with
  | [.val (.bool _)] => some (.val (.func (.func g) #[] #[]), [])
  | [.val (.int .u8 x), .val (.int .u8 y)] => some (.val (.int .i32 (unit (.val (.int .u8 x)) (.val (.int .u8 y)))), [])
  | _ => none
def unitA (big : Bool) (x y : AV) : Int := unitI big (byteOf x) (byteOf y)
theorem unitA_eq (big : Bool) (x y : UInt8) : unitA big (.val (.int .u8 (x.toNat : Int))) (.val (.int .u8 (y.toNat : Int))) = unitI big x y := by
  simp [unitA, byteOf]
theorem wide_next {big : Bool} {b : List UInt8} {out : List Itm} {a R n : Int} (h0 : 0 ≤ a) (h1 : a.toNat ≤ b.length) (h2 : out ++ wideF big a (b.drop a.toNat) = wideF big 0 b) (h3 : out.length ≤ a.toNat) {r : List UInt8} (hr : b.drop a.toNat = r) (hne : r ≠ []) (hs : stepW big r = (R, n)) :
    0 ≤ a + n ∧ (a + n).toNat ≤ b.length ∧ out ++ [⟨R, a, n⟩] ++ wideF big (a + n) (b.drop (a + n).toNat) = wideF big 0 b ∧ (out ++ [(⟨R, a, n⟩ : Itm)]).length ≤ (a + n).toNat ∧ b.length - (a + n).toNat < b.length - a.toNat := by
  have h4 := stepW_n big r hne
  rw [hs] at h4
  simp only at h4
  have h5 : r.length = b.length - a.toNat := by rw [← hr, List.length_drop]
  refine ⟨by omega, by omega, ?_, by simp; omega, by omega⟩
  have e : wideF big a r = ⟨R, a, n⟩ :: wideF big (a + n) (r.drop n.toNat) := by
    rw [wideF, dif_neg hne, hs]
  rw [← h2, hr, e, ← hr, List.drop_drop, show (a + n).toNat = a.toNat + n.toNat by omega]
  simp
set_option maxRecDepth 20000 in
set_option maxHeartbeats 4000000 in
theorem WItems_b (big : Bool) (b : List UInt8) (hb : b.length ≤ 1000000000) : BCall Tryz.prog 179 [.slc 1 (bytesA b), .val (.bool big)] [] (.slc 3 (itmsA (wideF big 0 b))) [] := by
  obtain ⟨g, hg⟩ : ∃ g, g = if big then 308 else 309 := ⟨_, rfl⟩
  have hUs : BCall Tryz.prog 253 [.val (.bool big)] [] (.val (.func (.func g) #[] #[])) [] := by rw [hg]; exact units_b big
  have hUn : ∀ x y : UInt8, BCall Tryz.prog g [.val (.int .u8 (x.toNat : Int)), .val (.int .u8 (y.toNat : Int))] [] (.val (.int .i32 (unitI big x y))) [] := fun x y => by rw [hg]; exact unit_b big x y
  clear hg
  refine fnN (csW g (unitA big)) Tryz.func179 rfl fun _ _ => ?_
  with_reducible refine cv2 (unitA big) (bytesA b) ?_
  refine ⟨hUs, ?_⟩
  refine loopN (csW g (unitA big)) (List Itm × Int) (fun x => ⟨[(0, .slc 1 (bytesA b)), (5, .row 0 0), (6, .val (.func (.func g) #[] #[])), (7, .val (.int .i64 x.2))], [.row 223 3 false 0 (itmsA x.1)]⟩) (fun x => 0 ≤ x.2 ∧ x.2.toNat ≤ b.length ∧ x.1 ++ wideF big x.2 (b.drop x.2.toNat) = wideF big 0 b ∧ x.1.length ≤ x.2.toNat) (fun x => b.length - x.2.toNat) ([], 0) ?_ ?_ ?_
  · simp
  · exact ⟨[none], _, rfl, by simp [AllEq, lk, itmsA]⟩
  · rintro ⟨out, at_⟩ ⟨hJ0, hJ1, hJ2, hJ3⟩
    simp only at hJ0 hJ1 hJ2 hJ3
    with_reducible refine cv3 (unitA big) (bytesA b) (itmsA out) ?_
    have hbl := bytes_len b
    have hrl : (b.drop at_.toNat).length = b.length - at_.toNat := List.length_drop
    have hgt : ∀ j : Nat, b[at_.toNat + j]? = (b.drop at_.toNat)[j]? := fun j => by rw [List.getElem?_drop]
    have get : ∀ (j : Nat) (x : UInt8), (b.drop at_.toNat)[j]? = some x → (bytesA b)[at_.toNat + j]?.getD .dead = .val (.int .u8 x.toNat) ∧ ∀ h : at_.toNat + j < (bytesA b).length, (bytesA b)[at_.toNat + j]'h = .val (.int .u8 x.toNat) := fun j x hx => by
      rw [← hgt] at hx
      have h1 : (bytesA b)[at_.toNat + j]? = some (.val (.int .u8 x.toNat)) := by simp [bytesA, hx, byteA]
      exact ⟨by rw [h1]; rfl, fun h => by rw [List.getElem?_eq_getElem h] at h1; exact Option.some.inj h1⟩
    have n1 : (at_ + 1).toNat = at_.toNat + 1 := by omega
    have n2 : (at_ + 2).toNat = at_.toNat + 2 := by omega
    have n3 : (at_ + 2 + 1).toNat = at_.toNat + 3 := by omega
    generalize hr : b.drop at_.toNat = r at hgt get hrl hJ2
    match r, hr with
    | [], hr =>
      simp only [List.length_nil] at hrl
      with_reducible repeat' first | refine aU hbl ?_ | refine zA ?_ ?_ | intro hb
      rw [if_pos trivial]
      with_reducible refine cv3 (unitA big) (bytesA b) (itmsA out) ?_
      refine .pure rfl (.inl ?_)
      rw [← hJ2, wideF, dif_pos rfl, List.append_nil]
    | [x], hr =>
      simp only [List.length_singleton] at hrl
      obtain ⟨g0, g0'⟩ := get 0 x rfl
      rw [Nat.add_zero] at g0 g0'
      have hle : (b.length : Int) = at_ + 1 := by omega
      have hol := itms_len out
      have hnx := wide_next (r := [x]) hJ0 hJ1 (hr ▸ hJ2) hJ3 hr (by simp) (R := -1) (n := 1) rfl
      repeat' first
        | (with_reducible refine And.intro (fun hx => absurd hx (by first | (try simp [std, S1, hbl, hol, g0, g0', n1, n2, n3, unitA_eq, hle]) <;> omega | omega)) (fun _ => ?_))
        | (with_reducible refine And.intro (fun _ => ?_) (fun hx => absurd hx (by first | (try simp [std, S1, hbl, hol, g0, g0', n1, n2, n3, unitA_eq, hle]) <;> omega | omega)))
        | (with_reducible refine And.intro (by first | (try simp [std, S1, hbl, hol, g0, g0', n1, n2, n3, unitA_eq, hle]) <;> omega | omega) ?_)
        | (with_reducible refine And.intro ?_ ?_)
        | (with_reducible intro hb)
      all_goals
        refine ⟨(out ++ [⟨-1, at_, 1⟩], at_ + 1), ⟨hnx.1, hnx.2.1, hnx.2.2.1, hnx.2.2.2.1⟩, hnx.2.2.2.2, [some 0], _, rfl, ?_⟩
        simp [AllEq, lk, std, AV.cells, intOf, itms_app, itms_one, hbl, hol, g0, g0', n1, n2, n3, unitA_eq, hle] <;> first | omega | (split <;> omega) | trace_state
    | x :: y :: r, hr =>
      obtain ⟨g0, g0'⟩ := get 0 x rfl
      obtain ⟨g1, g1'⟩ := get 1 y rfl
      rw [Nat.add_zero] at g0 g0'
      have hU := hUn x y
      have hol := itms_len out
      have hur := unit_range big x y
      simp only [List.length_cons] at hrl
      match r, hr with
      | [], hr =>
        have hle : (b.length : Int) = at_ + 2 := by simp only [List.length_nil, List.length_singleton] at hrl; omega
        have hst : stepW big [x, y] = (if 55296 ≤ unitI big x y ∧ unitI big x y < 57344 then (-1, 2) else (unitI big x y, 2)) := rfl
        obtain ⟨u, hu⟩ : ∃ u, u = unitI big x y := ⟨_, rfl⟩
        have hu' := hu.symm
        rw [← hu] at hst hU hur
        by_cases h1 : 55296 ≤ u ∧ u < 57344
        · rw [if_pos h1] at hst
          have hnx := wide_next (r := [x, y]) hJ0 hJ1 (hr ▸ hJ2) hJ3 hr (by simp) hst
          obtain ⟨h1a, h1b⟩ := h1
          repeat' first
            | (with_reducible refine And.intro (fun hx => absurd hx (by first | (try simp [std, S1, hbl, hol, g0, g0', n1, n2, n3, unitA_eq, hle, g1, g1', hu', hU, h1a, h1b]) <;> omega | omega)) (fun _ => ?_))
            | (with_reducible refine And.intro (fun _ => ?_) (fun hx => absurd hx (by first | (try simp [std, S1, hbl, hol, g0, g0', n1, n2, n3, unitA_eq, hle, g1, g1', hu', hU, h1a, h1b]) <;> omega | omega)))
            | (with_reducible refine And.intro (by first | (try simp [std, S1, hbl, hol, g0, g0', n1, n2, n3, unitA_eq, hle, g1, g1', hu', hU, h1a, h1b]) <;> omega | omega) ?_)
            | (with_reducible refine And.intro ?_ ?_)
            | (with_reducible intro hb)
          all_goals
            refine ⟨(out ++ [⟨-1, at_, 2⟩], at_ + 2), ⟨hnx.1, hnx.2.1, hnx.2.2.1, hnx.2.2.2.1⟩, hnx.2.2.2.2, [some 0], _, rfl, ?_⟩
            simp [AllEq, lk, std, AV.cells, intOf, itms_app, itms_one, hbl, hol, g0, g0', n1, n2, n3, unitA_eq, hle, g1, g1', hu', hU, h1a, h1b] <;> first | omega | (split <;> omega) | trace_state
        · rw [if_neg h1] at hst
          have hnx := wide_next (r := [x, y]) hJ0 hJ1 (hr ▸ hJ2) hJ3 hr (by simp) hst
          rcases (by omega : u < 55296 ∨ 55296 ≤ u) with h1a | h1a
          · have h1c : ¬ 55296 ≤ u := by omega
            repeat' first
              | (with_reducible refine And.intro (fun hx => absurd hx (by first | (try simp [std, S1, hbl, hol, g0, g0', n1, n2, n3, unitA_eq, hle, g1, g1', hu', hU, h1c]) <;> omega | omega)) (fun _ => ?_))
              | (with_reducible refine And.intro (fun _ => ?_) (fun hx => absurd hx (by first | (try simp [std, S1, hbl, hol, g0, g0', n1, n2, n3, unitA_eq, hle, g1, g1', hu', hU, h1c]) <;> omega | omega)))
              | (with_reducible refine And.intro (by first | (try simp [std, S1, hbl, hol, g0, g0', n1, n2, n3, unitA_eq, hle, g1, g1', hu', hU, h1c]) <;> omega | omega) ?_)
              | (with_reducible refine And.intro ?_ ?_)
              | (with_reducible intro hb)
            all_goals
              refine ⟨(out ++ [⟨u, at_, 2⟩], at_ + 2), ⟨hnx.1, hnx.2.1, hnx.2.2.1, hnx.2.2.2.1⟩, hnx.2.2.2.2, [some 0], _, rfl, ?_⟩
              simp [AllEq, lk, std, AV.cells, intOf, itms_app, itms_one, hbl, hol, g0, g0', n1, n2, n3, unitA_eq, hle, g1, g1', hu', hU, h1c] <;> first | omega | (split <;> omega) | trace_state
          · have h1b : ¬ u < 57344 := by omega
            have h1c : ¬ u < 56320 := by omega
            repeat' first
              | (with_reducible refine And.intro (fun hx => absurd hx (by first | (try simp [std, S1, hbl, hol, g0, g0', n1, n2, n3, unitA_eq, hle, g1, g1', hu', hU, h1a, h1b, h1c]) <;> omega | omega)) (fun _ => ?_))
              | (with_reducible refine And.intro (fun _ => ?_) (fun hx => absurd hx (by first | (try simp [std, S1, hbl, hol, g0, g0', n1, n2, n3, unitA_eq, hle, g1, g1', hu', hU, h1a, h1b, h1c]) <;> omega | omega)))
              | (with_reducible refine And.intro (by first | (try simp [std, S1, hbl, hol, g0, g0', n1, n2, n3, unitA_eq, hle, g1, g1', hu', hU, h1a, h1b, h1c]) <;> omega | omega) ?_)
              | (with_reducible refine And.intro ?_ ?_)
              | (with_reducible intro hb)
            all_goals
              refine ⟨(out ++ [⟨u, at_, 2⟩], at_ + 2), ⟨hnx.1, hnx.2.1, hnx.2.2.1, hnx.2.2.2.1⟩, hnx.2.2.2.2, [some 0], _, rfl, ?_⟩
              simp [AllEq, lk, std, AV.cells, intOf, itms_app, itms_one, hbl, hol, g0, g0', n1, n2, n3, unitA_eq, hle, g1, g1', hu', hU, h1a, h1b, h1c] <;> first | omega | (split <;> omega) | trace_state
      | [z], hr =>
        have hle : (b.length : Int) = at_ + 3 := by simp only [List.length_nil, List.length_singleton] at hrl; omega
        have hst : stepW big [x, y, z] = (if 55296 ≤ unitI big x y ∧ unitI big x y < 57344 then (-1, 2) else (unitI big x y, 2)) := rfl
        obtain ⟨u, hu⟩ : ∃ u, u = unitI big x y := ⟨_, rfl⟩
        have hu' := hu.symm
        rw [← hu] at hst hU hur
        by_cases h1 : 55296 ≤ u ∧ u < 57344
        · rw [if_pos h1] at hst
          have hnx := wide_next (r := [x, y, z]) hJ0 hJ1 (hr ▸ hJ2) hJ3 hr (by simp) hst
          obtain ⟨h1a, h1b⟩ := h1
          repeat' first
            | (with_reducible refine And.intro (fun hx => absurd hx (by first | (try simp [std, S1, hbl, hol, g0, g0', n1, n2, n3, unitA_eq, hle, g1, g1', hu', hU, h1a, h1b]) <;> omega | omega)) (fun _ => ?_))
            | (with_reducible refine And.intro (fun _ => ?_) (fun hx => absurd hx (by first | (try simp [std, S1, hbl, hol, g0, g0', n1, n2, n3, unitA_eq, hle, g1, g1', hu', hU, h1a, h1b]) <;> omega | omega)))
            | (with_reducible refine And.intro (by first | (try simp [std, S1, hbl, hol, g0, g0', n1, n2, n3, unitA_eq, hle, g1, g1', hu', hU, h1a, h1b]) <;> omega | omega) ?_)
            | (with_reducible refine And.intro ?_ ?_)
            | (with_reducible intro hb)
          all_goals
            refine ⟨(out ++ [⟨-1, at_, 2⟩], at_ + 2), ⟨hnx.1, hnx.2.1, hnx.2.2.1, hnx.2.2.2.1⟩, hnx.2.2.2.2, [some 0], _, rfl, ?_⟩
            simp [AllEq, lk, std, AV.cells, intOf, itms_app, itms_one, hbl, hol, g0, g0', n1, n2, n3, unitA_eq, hle, g1, g1', hu', hU, h1a, h1b] <;> first | omega | (split <;> omega) | trace_state
        · rw [if_neg h1] at hst
          have hnx := wide_next (r := [x, y, z]) hJ0 hJ1 (hr ▸ hJ2) hJ3 hr (by simp) hst
          rcases (by omega : u < 55296 ∨ 55296 ≤ u) with h1a | h1a
          · have h1c : ¬ 55296 ≤ u := by omega
            repeat' first
              | (with_reducible refine And.intro (fun hx => absurd hx (by first | (try simp [std, S1, hbl, hol, g0, g0', n1, n2, n3, unitA_eq, hle, g1, g1', hu', hU, h1c]) <;> omega | omega)) (fun _ => ?_))
              | (with_reducible refine And.intro (fun _ => ?_) (fun hx => absurd hx (by first | (try simp [std, S1, hbl, hol, g0, g0', n1, n2, n3, unitA_eq, hle, g1, g1', hu', hU, h1c]) <;> omega | omega)))
              | (with_reducible refine And.intro (by first | (try simp [std, S1, hbl, hol, g0, g0', n1, n2, n3, unitA_eq, hle, g1, g1', hu', hU, h1c]) <;> omega | omega) ?_)
              | (with_reducible refine And.intro ?_ ?_)
              | (with_reducible intro hb)
            all_goals
              refine ⟨(out ++ [⟨u, at_, 2⟩], at_ + 2), ⟨hnx.1, hnx.2.1, hnx.2.2.1, hnx.2.2.2.1⟩, hnx.2.2.2.2, [some 0], _, rfl, ?_⟩
              simp [AllEq, lk, std, AV.cells, intOf, itms_app, itms_one, hbl, hol, g0, g0', n1, n2, n3, unitA_eq, hle, g1, g1', hu', hU, h1c] <;> first | omega | (split <;> omega) | trace_state
          · have h1b : ¬ u < 57344 := by omega
            have h1c : ¬ u < 56320 := by omega
            repeat' first
              | (with_reducible refine And.intro (fun hx => absurd hx (by first | (try simp [std, S1, hbl, hol, g0, g0', n1, n2, n3, unitA_eq, hle, g1, g1', hu', hU, h1a, h1b, h1c]) <;> omega | omega)) (fun _ => ?_))
              | (with_reducible refine And.intro (fun _ => ?_) (fun hx => absurd hx (by first | (try simp [std, S1, hbl, hol, g0, g0', n1, n2, n3, unitA_eq, hle, g1, g1', hu', hU, h1a, h1b, h1c]) <;> omega | omega)))
              | (with_reducible refine And.intro (by first | (try simp [std, S1, hbl, hol, g0, g0', n1, n2, n3, unitA_eq, hle, g1, g1', hu', hU, h1a, h1b, h1c]) <;> omega | omega) ?_)
              | (with_reducible refine And.intro ?_ ?_)
              | (with_reducible intro hb)
            all_goals
              refine ⟨(out ++ [⟨u, at_, 2⟩], at_ + 2), ⟨hnx.1, hnx.2.1, hnx.2.2.1, hnx.2.2.2.1⟩, hnx.2.2.2.2, [some 0], _, rfl, ?_⟩
              simp [AllEq, lk, std, AV.cells, intOf, itms_app, itms_one, hbl, hol, g0, g0', n1, n2, n3, unitA_eq, hle, g1, g1', hu', hU, h1a, h1b, h1c] <;> first | omega | (split <;> omega) | trace_state
      | x2 :: y2 :: rr, hr =>
        obtain ⟨g2, g2'⟩ := get 2 x2 rfl
        obtain ⟨g3, g3'⟩ := get 3 y2 rfl
        have hU2 := hUn x2 y2
        obtain ⟨m, hm⟩ : ∃ m : Int, m = (rr.length : Int) := ⟨_, rfl⟩
        have hle : (b.length : Int) = at_ + (4 + m) := by simp only [List.length_cons] at hrl; omega
        have hst : stepW big (x :: y :: x2 :: y2 :: rr) = if (55296 ≤ unitI big x y ∧ unitI big x y < 56320) ∧ (56320 ≤ unitI big x2 y2 ∧ unitI big x2 y2 < 57344) then (65536 + (unitI big x y - 55296) * 1024 + (unitI big x2 y2 - 56320), 4) else (if 55296 ≤ unitI big x y ∧ unitI big x y < 57344 then (-1, 2) else (unitI big x y, 2)) := rfl
        have hur2 := unit_range big x2 y2
        have hnot : bitsI .andNot .i32 (unitI big x2 y2) 1023 = unitI big x2 y2 / 1024 * 1024 := by
          have := bits_not (unitI big x2 y2).toNat (by omega)
          rw [Int.toNat_of_nonneg hur2.1] at this
          rw [this]; omega
        have hand : bitsI .and .i32 (unitI big x2 y2) 1023 = unitI big x2 y2 % 1024 := by
          have := bits_and (unitI big x2 y2).toNat (by omega)
          rw [Int.toNat_of_nonneg hur2.1] at this
          rw [this]; omega
        obtain ⟨u, hu⟩ : ∃ u, u = unitI big x y := ⟨_, rfl⟩
        obtain ⟨u2, hu2⟩ : ∃ u, u = unitI big x2 y2 := ⟨_, rfl⟩
        have hu' := hu.symm
        have hu2' := hu2.symm
        rw [← hu] at hst hU hur
        rw [← hu2] at hst hU2 hur2 hnot hand
        have hm0 : ¬ (4 + m < 4) := by omega
        have hm2 : ¬ (4 + m < 2) := by omega
        by_cases hh : 55296 ≤ u ∧ u < 56320
        · by_cases hl : 56320 ≤ u2 ∧ u2 < 57344
          · rw [if_pos ⟨hh, hl⟩] at hst
            have hnx := wide_next hJ0 hJ1 (hr ▸ hJ2) hJ3 hr (by simp) hst
            have hn2 : u2 / 1024 * 1024 = 56320 := by omega
            have ha2 : u2 % 1024 = u2 - 56320 := by omega
            have hsh : shlI .i32 (u - 55296) 10 = (u - 55296) * 1024 := by
              show IntKind.wrap .i32 ((u - 55296) * 2 ^ min (10 : Int).toNat 32) = _
              rw [show (2 : Int) ^ min (10 : Int).toNat 32 = 1024 from rfl]
              exact wrap32 _ (by omega) (by omega)
            rw [hn2] at hnot
            rw [ha2] at hand
            obtain ⟨hha, hhb⟩ := hh
            repeat' first
              | (with_reducible refine And.intro (fun hx => absurd hx (by first | (try simp [std, S1, hbl, hol, g0, g0', n1, n2, n3, unitA_eq, hle, g1, g1', g2, g2', g3, g3', hu', hu2', hU, hU2, hnot, hand, hsh, hm0, hm2, hha, hhb]) <;> omega | omega)) (fun _ => ?_))
              | (with_reducible refine And.intro (fun _ => ?_) (fun hx => absurd hx (by first | (try simp [std, S1, hbl, hol, g0, g0', n1, n2, n3, unitA_eq, hle, g1, g1', g2, g2', g3, g3', hu', hu2', hU, hU2, hnot, hand, hsh, hm0, hm2, hha, hhb]) <;> omega | omega)))
              | (with_reducible refine And.intro (by first | (try simp [std, S1, hbl, hol, g0, g0', n1, n2, n3, unitA_eq, hle, g1, g1', g2, g2', g3, g3', hu', hu2', hU, hU2, hnot, hand, hsh, hm0, hm2, hha, hhb]) <;> omega | omega) ?_)
              | (with_reducible refine And.intro ?_ ?_)
              | (with_reducible intro hb)
            all_goals
              refine ⟨(out ++ [⟨65536 + (u - 55296) * 1024 + (u2 - 56320), at_, 4⟩], at_ + 4), ⟨hnx.1, hnx.2.1, hnx.2.2.1, hnx.2.2.2.1⟩, hnx.2.2.2.2, [some 0], _, rfl, ?_⟩
              simp [AllEq, lk, std, AV.cells, intOf, itms_app, itms_one, hbl, hol, g0, g0', n1, n2, n3, unitA_eq, hle, g1, g1', g2, g2', g3, g3', hu', hu2', hU, hU2, hnot, hand, hsh, hm0, hm2, hha, hhb] <;> first | omega | (split <;> omega) | trace_state
          · rw [if_neg (fun h => hl h.2), if_pos ⟨hh.1, by omega⟩] at hst
            have hnx := wide_next hJ0 hJ1 (hr ▸ hJ2) hJ3 hr (by simp) hst
            have hn2 : ¬ u2 / 1024 * 1024 = 56320 := by omega
            obtain ⟨hha, hhb⟩ := hh
            have hhc : u < 57344 := by omega
            repeat' first
              | (with_reducible refine And.intro (fun hx => absurd hx (by first | (try simp [std, S1, hbl, hol, g0, g0', n1, n2, n3, unitA_eq, hle, g1, g1', g2, g2', g3, g3', hu', hu2', hU, hU2, hnot, hn2, hm0, hm2, hha, hhb, hhc]) <;> omega | omega)) (fun _ => ?_))
              | (with_reducible refine And.intro (fun _ => ?_) (fun hx => absurd hx (by first | (try simp [std, S1, hbl, hol, g0, g0', n1, n2, n3, unitA_eq, hle, g1, g1', g2, g2', g3, g3', hu', hu2', hU, hU2, hnot, hn2, hm0, hm2, hha, hhb, hhc]) <;> omega | omega)))
              | (with_reducible refine And.intro (by first | (try simp [std, S1, hbl, hol, g0, g0', n1, n2, n3, unitA_eq, hle, g1, g1', g2, g2', g3, g3', hu', hu2', hU, hU2, hnot, hn2, hm0, hm2, hha, hhb, hhc]) <;> omega | omega) ?_)
              | (with_reducible refine And.intro ?_ ?_)
              | (with_reducible intro hb)
            all_goals
              refine ⟨(out ++ [⟨-1, at_, 2⟩], at_ + 2), ⟨hnx.1, hnx.2.1, hnx.2.2.1, hnx.2.2.2.1⟩, hnx.2.2.2.2, [some 0], _, rfl, ?_⟩
              simp [AllEq, lk, std, AV.cells, intOf, itms_app, itms_one, hbl, hol, g0, g0', n1, n2, n3, unitA_eq, hle, g1, g1', g2, g2', g3, g3', hu', hu2', hU, hU2, hnot, hn2, hm0, hm2, hha, hhb, hhc] <;> first | omega | (split <;> omega) | trace_state
        · rw [if_neg (fun h => hh h.1)] at hst
          by_cases h1 : 55296 ≤ u ∧ u < 57344
          · rw [if_pos h1] at hst
            have hnx := wide_next hJ0 hJ1 (hr ▸ hJ2) hJ3 hr (by simp) hst
            have hha : ¬ u < 56320 := by omega
            obtain ⟨h1a, h1b⟩ := h1
            repeat' first
              | (with_reducible refine And.intro (fun hx => absurd hx (by first | (try simp [std, S1, hbl, hol, g0, g0', n1, n2, n3, unitA_eq, hle, g1, g1', hu', hU, hm0, hm2, hha, h1a, h1b]) <;> omega | omega)) (fun _ => ?_))
              | (with_reducible refine And.intro (fun _ => ?_) (fun hx => absurd hx (by first | (try simp [std, S1, hbl, hol, g0, g0', n1, n2, n3, unitA_eq, hle, g1, g1', hu', hU, hm0, hm2, hha, h1a, h1b]) <;> omega | omega)))
              | (with_reducible refine And.intro (by first | (try simp [std, S1, hbl, hol, g0, g0', n1, n2, n3, unitA_eq, hle, g1, g1', hu', hU, hm0, hm2, hha, h1a, h1b]) <;> omega | omega) ?_)
              | (with_reducible refine And.intro ?_ ?_)
              | (with_reducible intro hb)
            all_goals
              refine ⟨(out ++ [⟨-1, at_, 2⟩], at_ + 2), ⟨hnx.1, hnx.2.1, hnx.2.2.1, hnx.2.2.2.1⟩, hnx.2.2.2.2, [some 0], _, rfl, ?_⟩
              simp [AllEq, lk, std, AV.cells, intOf, itms_app, itms_one, hbl, hol, g0, g0', n1, n2, n3, unitA_eq, hle, g1, g1', hu', hU, hm0, hm2, hha, h1a, h1b] <;> first | omega | (split <;> omega) | trace_state
          · rw [if_neg h1] at hst
            have hnx := wide_next hJ0 hJ1 (hr ▸ hJ2) hJ3 hr (by simp) hst
            rcases (by omega : u < 55296 ∨ 55296 ≤ u) with h1a | h1a
            · have h1c : ¬ 55296 ≤ u := by omega
              repeat' first
                | (with_reducible refine And.intro (fun hx => absurd hx (by first | (try simp [std, S1, hbl, hol, g0, g0', n1, n2, n3, unitA_eq, hle, g1, g1', hu', hU, hm0, hm2, h1c]) <;> omega | omega)) (fun _ => ?_))
                | (with_reducible refine And.intro (fun _ => ?_) (fun hx => absurd hx (by first | (try simp [std, S1, hbl, hol, g0, g0', n1, n2, n3, unitA_eq, hle, g1, g1', hu', hU, hm0, hm2, h1c]) <;> omega | omega)))
                | (with_reducible refine And.intro (by first | (try simp [std, S1, hbl, hol, g0, g0', n1, n2, n3, unitA_eq, hle, g1, g1', hu', hU, hm0, hm2, h1c]) <;> omega | omega) ?_)
                | (with_reducible refine And.intro ?_ ?_)
                | (with_reducible intro hb)
              all_goals
                refine ⟨(out ++ [⟨u, at_, 2⟩], at_ + 2), ⟨hnx.1, hnx.2.1, hnx.2.2.1, hnx.2.2.2.1⟩, hnx.2.2.2.2, [some 0], _, rfl, ?_⟩
                simp [AllEq, lk, std, AV.cells, intOf, itms_app, itms_one, hbl, hol, g0, g0', n1, n2, n3, unitA_eq, hle, g1, g1', hu', hU, hm0, hm2, h1c] <;> first | omega | (split <;> omega) | trace_state
            · have h1b : ¬ u < 57344 := by omega
              have h1c : ¬ u < 56320 := by omega
              repeat' first
                | (with_reducible refine And.intro (fun hx => absurd hx (by first | (try simp [std, S1, hbl, hol, g0, g0', n1, n2, n3, unitA_eq, hle, g1, g1', hu', hU, hm0, hm2, h1a, h1b, h1c]) <;> omega | omega)) (fun _ => ?_))
                | (with_reducible refine And.intro (fun _ => ?_) (fun hx => absurd hx (by first | (try simp [std, S1, hbl, hol, g0, g0', n1, n2, n3, unitA_eq, hle, g1, g1', hu', hU, hm0, hm2, h1a, h1b, h1c]) <;> omega | omega)))
                | (with_reducible refine And.intro (by first | (try simp [std, S1, hbl, hol, g0, g0', n1, n2, n3, unitA_eq, hle, g1, g1', hu', hU, hm0, hm2, h1a, h1b, h1c]) <;> omega | omega) ?_)
                | (with_reducible refine And.intro ?_ ?_)
                | (with_reducible intro hb)
              all_goals
                refine ⟨(out ++ [⟨u, at_, 2⟩], at_ + 2), ⟨hnx.1, hnx.2.1, hnx.2.2.1, hnx.2.2.2.1⟩, hnx.2.2.2.2, [some 0], _, rfl, ?_⟩
                simp [AllEq, lk, std, AV.cells, intOf, itms_app, itms_one, hbl, hol, g0, g0', n1, n2, n3, unitA_eq, hle, g1, g1', hu', hU, hm0, hm2, h1a, h1b, h1c] <;> first | omega | (split <;> omega) | trace_state
end Go.Proofs.YtcmjijpofkoogaaGreat
