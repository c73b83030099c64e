/-
  Walks over package class: what each function answers, for every rune, every row. No condition but that the row reads.
-/
import Derived.Test.YtbbplpmaknaadaaBase
namespace Go.Proofs.Ytbbplpmaknaadaa
open Go.RowKit

def isSpace (r : Int) : Bool := r == 32 || r == 9 || r == 10 || r == 13

set_option maxHeartbeats 400000 in
theorem Space_any (r : Int) (w : World) : Calls Try.prog 51 #[.int .i32 r] w fun e w' => e = .returned (.bool (isSpace r)) ∧ w = w' := by
  go_enter Try.func51, Try.ntmps51
  go_wp2
  all_goals (go_ret; exact ⟨ret_bool (by simp [isSpace, *]), rfl⟩)

theorem eql_is (fn : Fn) (a b : Array Value) (w : World) : (binOp .eql 36 (.func fn a b) .nilFunc).run Try.prog w = .ok (.bool false) w := by kernel_rfl
theorem neq_is (fn : Fn) (a b : Array Value) (w : World) : (binOp .neq 36 (.func fn a b) .nilFunc).run Try.prog w = .ok (.bool true) w := by kernel_rfl

def runF (p : Int → Bool) (l : List Int) : Int → Nat := fun from_ => if from_ < 0 ∨ (l.length : Int) < from_ then 0 else ((l.drop from_.toNat).takeWhile p).length

theorem takeWhile_at {p : Int → Bool} (l : List Int) (k : Nat) (hk : k < l.length) (hp : p l[k] = false) (h : ∀ j, (hj : j < k) → p (l[j]'(by omega)) = true) : (l.takeWhile p).length = k := by
  induction l generalizing k with
  | nil => simp at hk
  | cons a t ih =>
    cases k with
    | zero => simp at hp; simp [hp]
    | succ k =>
      have h0 : p a = true := h 0 (by omega)
      simp only [List.takeWhile_cons, h0, if_true, List.length_cons]
      rw [ih k (by simpa using hk) (by simpa using hp) (fun j hj => by have := h (j + 1) (by omega); simpa using this)]

theorem takeWhile_all {p : Int → Bool} (l : List Int) (h : ∀ j, (hj : j < l.length) → p l[j] = true) : (l.takeWhile p).length = l.length := by
  induction l with
  | nil => rfl
  | cons a t ih =>
    have h0 : p a = true := h 0 (by simp)
    simp only [List.takeWhile_cons, h0, if_true, List.length_cons]
    rw [ih (fun j hj => by have := h (j + 1) (by simp; omega); simpa using this)]

theorem takeWhile_eq_all (p : Int → Bool) (l : List Int) : ((l.takeWhile p).length == l.length) = l.all p := by
  induction l with
  | nil => rfl
  | cons a t ih =>
    cases h : p a with
    | true => simpa [List.takeWhile_cons, h] using ih
    | false => simp [h]

set_option maxHeartbeats 1000000 in
set_option maxRecDepth 100000 in
theorem Run_any (S : Nat → Prop) (A : Option Addr) (n c : Nat) (l : List Int) (from_ : Int) (g : Nat) (caps : Array Value) (p : Int → Bool) (w : World)
    (eg : ∀ args w, (callFunc g args).run Try.prog w = .ok (.enter g args) w)
    (hr : Rd w S 1 A n c (rc l)) (hp : PredOk Try.prog g caps p w) :
    Calls Try.prog 47 #[.slice A n c, .int .i64 from_, .func (.func g) #[] caps] w fun e w' => e = .returned (.int .i64 (runF p l from_)) ∧ Below w.heap.size w w' := by
  have hl : n = l.length := by have := hr.len; simpa using this.symm
  have hle := hr.le
  have hmx := hr.max
  have hmx : c ≤ 9223372036854775807 := hmx
  subst hl
  have heq := eql_is (.func g) #[] caps
  by_cases h1 : from_ < 0
  · go_enter Try.func47, Try.ntmps47
    go_wp2
    go_ret
    exact ⟨ret_int (by simp [runF, h1]), Below.refl _ _⟩
  · by_cases h2 : (l.length : Int) < from_
    · go_enter Try.func47, Try.ntmps47
      go_wp2
      go_ret
      exact ⟨ret_int (by simp [runF, h2]), Below.refl _ _⟩
    · obtain ⟨k, rfl⟩ := Int.eq_ofNat_of_zero_le (show 0 ≤ from_ by omega)
      have hk : k ≤ l.length := by omega
      obtain ⟨A', hr2, hsl⟩ := hr.cutL Try.underlying22 (fun _ => by simp [go_sem]) hk (P := Try.prog)
      have hrest : (rc l).drop (k * 1) = rc (l.drop k) := by simp [rc]
      rw [hrest] at hr2
      have HF : Hid (runF p l (k : Int) = ((l.drop k).takeWhile p).length) := Lib.hid (by simp [runF, h1, h2])
      have HR := Lib.hid hr2
      have HP := Lib.hid hp
      have hd1 : decide ((k : Int) < 0) = false := by simp
      have hd2 : decide (l.length < k) = false := by simp; omega
      clear h1 h2 hrest hr hr2 hp
      go_enter Try.func47, Try.ntmps47
      go_wp2
      obtain ⟨m, hm⟩ : ∃ m, m = l.drop k := ⟨_, rfl⟩
      have hml : m.length = l.length - k := by rw [hm]; simp
      rw [← hm] at HR HF
      clear hm
      have HML := Lib.hid hml
      clear hml
      go_loopw [25] (fun i wr => ∃ j : Nat, j ≤ l.length - k ∧ i = .int .i64 j ∧ Hid (Below w.heap.size w wr) ∧ Hid (∀ q, q < j → ∀ h : q < m.length, p m[q] = true)) (fun i _ => l.length - (intOf i).toNat)
      case atStart => exact ⟨0, Nat.zero_le _, rfl, Below.refl _ _, fun q hq => absurd hq (by omega)⟩
      case round =>
        obtain ⟨j, hj, rfl, HB, HQ⟩ := hrel
        by_cases hlt : j < l.length - k
        · obtain ⟨b, o, u, rfl, _, hu, hc⟩ := (HR.out.below HB.out).one hlt
          obtain ⟨hjm, rfl⟩ := rc_get hu
          clear hu
          have hcall := HP.out wr m[j] HB.out
          cases hq : p m[j] with
          | true =>
            rw [hq] at hcall
            have HCALL := Lib.hid hcall
            have HQ1 := Lib.hid hq
            clear hq hcall
            generalize m[j] = r at hc HCALL
            go_wp2_with (go_at_fn g; refine HCALL.out.mono ?_; rintro e w' ⟨rfl, hb'⟩)
            go_roundw
            case rel => exact ⟨j + 1, by omega, by go_num, below_all HB.out hb', fun q hq h => by
              rcases Nat.lt_succ_iff_lt_or_eq.1 hq with h1 | h1
              · exact HQ.out q h1 h
              · subst h1; exact HQ1.out⟩
            case measure => simp [intOf]; omega
          | false =>
            rw [hq] at hcall
            have HCALL := Lib.hid hcall
            have HQ1 := Lib.hid hq
            clear hq hcall
            generalize m[j] = r at hc HCALL
            go_wp2_with (go_at_fn g; refine HCALL.out.mono ?_; rintro e w' ⟨rfl, hb'⟩)
            go_ret
            refine ⟨ret_int ?_, below_all HB.out hb'⟩
            rw [HF.out, takeWhile_at m j hjm HQ1.out (fun q hq => HQ.out q hq (by omega))]
        · go_wp2
          go_ret
          refine ⟨ret_int ?_, HB.out⟩
          have hm := HML.out
          rw [HF.out, takeWhile_all m (fun q hq => HQ.out q (by omega) hq)]
          omega

theorem All_any (S : Nat → Prop) (A : Option Addr) (n c : Nat) (l : List Int) (g : Nat) (caps : Array Value) (p : Int → Bool) (w : World)
    (eg : ∀ args w, (callFunc g args).run Try.prog w = .ok (.enter g args) w)
    (hr : Rd w S 1 A n c (rc l)) (hp : PredOk Try.prog g caps p w) :
    Calls Try.prog 50 #[.slice A n c, .func (.func g) #[] caps] w fun e w' => e = .returned (.bool (l.all p)) ∧ Below w.heap.size w w' := by
  have hl : n = l.length := by have := hr.len; simpa using this.symm
  have hle := hr.le
  have hmx : c ≤ 9223372036854775807 := hr.max
  subst hl
  have heq := neq_is (.func g) #[] caps
  have HC := Lib.hid (Run_any S A l.length c l 0 g caps p w eg hr hp)
  clear hr hp
  go_enter Try.func50, Try.ntmps50
  go_wp2_with (go_at_call 47; refine HC.out.mono ?_; rintro e w' ⟨rfl, hb'⟩)
  go_ret
  refine ⟨ret_bool ?_, hb'⟩
  have h := takeWhile_eq_all p l
  have e0 : runF p l 0 = (l.takeWhile p).length := by
    simp only [runF, Int.toNat_zero, List.drop_zero]
    rw [if_neg (by omega)]
  rw [e0, ← h]
  rw [Bool.eq_iff_iff]
  simp only [beq_iff_eq]
  omega

/-- spans as cells -/
abbrev spanCells (sp : List (Int × Int)) : List Value := sp.flatMap fun x => [.int .i32 x.1, .int .i32 x.2]
def inSp (r : Int) (sp : List (Int × Int)) : Bool := sp.any fun x => decide (x.1 ≤ r) && decide (r ≤ x.2)

theorem spanCells_get (sp : List (Int × Int)) (j : Nat) (hj : j < sp.length) : (spanCells sp)[j * 2]? = some (.int .i32 sp[j].1) ∧ (spanCells sp)[j * 2 + 1]? = some (.int .i32 sp[j].2) := by
  induction sp generalizing j with
  | nil => simp at hj
  | cons a t ih =>
    cases j with
    | zero => simp [spanCells]
    | succ j =>
      have := ih j (by simpa using hj)
      have e1 : (j + 1) * 2 = j * 2 + 2 := by omega
      rw [e1]
      simpa [spanCells] using this

theorem inSp_succ (r : Int) (sp : List (Int × Int)) (j : Nat) (hj : j < sp.length) :
    inSp r (sp.take (j + 1)) = (inSp r (sp.take j) || (decide (sp[j].1 ≤ r) && decide (r ≤ sp[j].2))) := by
  simp only [inSp, List.take_succ_eq_append_getElem hj, List.any_append]
  simp
theorem inSp_hit (r : Int) (sp : List (Int × Int)) (j : Nat) (hj : j < sp.length) (h1 : sp[j].1 ≤ r) (h2 : r ≤ sp[j].2) : inSp r sp = true := by
  simp only [inSp, List.any_eq_true]
  exact ⟨sp[j], List.getElem_mem hj, by simp [h1, h2]⟩

set_option maxHeartbeats 1000000 in
set_option maxRecDepth 100000 in
theorem in_any (S : Nat → Prop) (A : Option Addr) (n c : Nat) (r : Int) (sp : List (Int × Int)) (w : World) (hr : Rd w S 2 A n c (spanCells sp)) (hn : n = sp.length) :
    Calls Try.prog 73 #[.int .i32 r, .slice A n c] w fun e w' => e = .returned (.bool (inSp r sp)) ∧ Below w.heap.size w w' := by
  have hle := hr.le
  have hmx : c ≤ 9223372036854775807 := hr.max
  subst hn
  have HR := Lib.hid hr
  clear hr
  go_enter Try.func73, Try.ntmps73
  go_wp2
  go_loopw [9] (fun i wr => ∃ j : Nat, j ≤ sp.length ∧ i = .int .i64 j ∧ Hid (Below w.heap.size w wr) ∧ Hid (inSp r (sp.take j) = false)) (fun i _ => sp.length - (intOf i).toNat)
  case atStart => exact ⟨0, Nat.zero_le _, rfl, Below.refl _ _, rfl⟩
  case round =>
    obtain ⟨j, hj, rfl, HB, HQ⟩ := hrel
    by_cases hlt : j < sp.length
    · obtain ⟨b, o, rfl, _, hcs⟩ := (HR.out.below HB.out).at_ (by omega)
      obtain ⟨g0, g1⟩ := spanCells_get sp j hlt
      have hc0 := hcs _ _ g0
      have hc1 : wr.cell? ⟨b, o + j * 2 + 1, none⟩ = _ := hcs _ _ g1
      clear g0 g1 hcs
      generalize e0 : sp[j].1 = lo at hc0
      generalize e1 : sp[j].2 = hi at hc1
      have HS := Lib.hid (inSp_succ r sp j hlt)
      rw [e0, e1] at HS
      have HN := Lib.hid (inSp_hit r sp j hlt)
      rw [e0, e1] at HN
      clear e0 e1
      go_wp2
      · go_ret
        exact ⟨ret_bool (by rw [HN.out (by assumption) (by assumption)]), (HB.out.alloc HB.out.size _).trans (Below.refl _ _)⟩
      · go_roundw
        case rel =>
          have h : hi < r := by assumption
          exact ⟨j + 1, by omega, by go_num, HB.out.alloc HB.out.size _, by rw [Hid, HS.out, HQ.out]; simp; omega⟩
        case measure => simp [intOf]; omega
      · go_roundw
        case rel =>
          have h : ¬ lo ≤ r := by assumption
          exact ⟨j + 1, by omega, by go_num, HB.out.alloc HB.out.size _, by rw [Hid, HS.out, HQ.out]; simp; omega⟩
        case measure => simp [intOf]; omega
    · have e : sp.take j = sp := List.take_of_length_le (by omega)
      rw [e] at HQ
      clear e
      go_wp2
      go_ret
      exact ⟨ret_bool HQ.out.symm, HB.out⟩

end Go.Proofs.Ytbbplpmaknaadaa
