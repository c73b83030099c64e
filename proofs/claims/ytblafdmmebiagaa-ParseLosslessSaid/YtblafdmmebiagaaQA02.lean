/-
  Parts of the proof, joined: Slices Runes Class ClassB RefC Name Put PutB PutC PutD PutE Esc. Conditions: as each theorem says.
-/
import Derived.Test.YtblafdmmebiagaaQA01
import Derived.Lib.AppendZeros
import Derived.Deep.RegionWith
namespace Go.Proofs.Ytblafdmmebiagaa
open Go.RowKit
def RunesV (w : World) (v : Value) (l : List Int) : Prop := ∃ A n c, v = .slice A n c ∧ Rd w (fun _ => True) 1 A n c (rc l)
theorem RunesV.of_own {w : World} {base : Nat} {e : TypeId} {v : Value} {n : Nat} {l : List Int} (h : w.ownsRow base e 1 v n (rc l)) : RunesV w v l := by
  obtain ⟨A, c, rfl, hr⟩ := own_form h
  exact ⟨A, n, c, rfl, hr.more fun _ _ => trivial⟩
theorem RunesV.of_rd {w : World} {S : Nat → Prop} {A : Option Addr} {n c : Nat} {l : List Int} (h : Rd w S 1 A n c (rc l)) : RunesV w (.slice A n c) l := ⟨A, n, c, rfl, h.more fun _ _ => trivial⟩
theorem RunesV.below {w w' : World} {v : Value} {l : List Int} (h : RunesV w v l) (hb : Below w.heap.size w w') : RunesV w' v l := by
  obtain ⟨A, n, c, rfl, hr⟩ := h
  exact ⟨A, n, c, rfl, hr.below hb⟩
theorem RunesV.alloc {w : World} {v : Value} {l : List Int} (h : RunesV w v l) (o : Obj) : RunesV (w.alloc o) v l := by
  obtain ⟨A, n, c, rfl, hr⟩ := h
  exact ⟨A, n, c, rfl, hr.alloc o⟩
structure RowsV (w : World) (A : Option Addr) (n c : Nat) (ls : List (List Int)) (vs : List Value) : Prop where
  rd : Rd w (fun _ => True) 1 A n c vs
  len : vs.length = ls.length
  each : ∀ (i : Nat) (v : Value) (l : List Int), vs[i]? = some v → ls[i]? = some l → RunesV w v l
theorem RowsV.below {w w' : World} {A : Option Addr} {n c : Nat} {ls : List (List Int)} {vs : List Value} (h : RowsV w A n c ls vs) (hb : Below w.heap.size w w') : RowsV w' A n c ls vs :=
  ⟨h.rd.below hb, h.len, fun i v l h1 h2 => (h.each i v l h1 h2).below hb⟩
end Go.Proofs.Ytblafdmmebiagaa
namespace Go.Proofs.Ytblafdmmebiagaa
open Go.RowKit Go.Lib
end Go.Proofs.Ytblafdmmebiagaa
namespace Go.Proofs.Ytblafdmmebiagaa
open Go.RowKit
def isSpace (r : Int) : Bool := r == 32 || r == 9 || r == 10 || r == 13
set_option maxHeartbeats 400000 in
theorem Space_any (r : Int) (w : World) : Calls Try.prog 85 #[.int .i32 r] w fun e w' => e = .returned (.bool (isSpace r)) ∧ w = w' := by
  go_enter Try.func85, Try.ntmps85
  go_wp2
  all_goals (go_ret; exact ⟨ret_bool (by simp [isSpace, *]), rfl⟩)
theorem eql_is (fn : Fn) (a b : Array Value) (w : World) : (binOp .eql 155 (.func fn a b) .nilFunc).run Try.prog w = .ok (.bool false) w := by kernel_rfl
def runF (p : Int → Bool) (l : List Int) : Int → Nat := fun from_ => if from_ < 0 ∨ (l.length : Int) < from_ then 0 else ((l.drop from_.toNat).takeWhile p).length
theorem takeWhile_at {p : Int → Bool} (l : List Int) (k : Nat) (hk : k < l.length) (hp : p l[k] = false) (h : ∀ j, (hj : j < k) → p (l[j]'(by omega)) = true) : (l.takeWhile p).length = k := by
  induction l generalizing k with
  | nil => simp at hk
  | cons a t ih =>
    cases k with
    | zero => simp at hp; simp [hp]
    | succ k =>
      have h0 : p a = true := h 0 (by omega)
      simp only [List.takeWhile_cons, h0, if_true, List.length_cons]
      rw [ih k (by simpa using hk) (by simpa using hp) (fun j hj => by have := h (j + 1) (by omega); simpa using this)]
theorem takeWhile_all {p : Int → Bool} (l : List Int) (h : ∀ j, (hj : j < l.length) → p l[j] = true) : (l.takeWhile p).length = l.length := by
  induction l with
  | nil => rfl
  | cons a t ih =>
    have h0 : p a = true := h 0 (by simp)
    simp only [List.takeWhile_cons, h0, if_true, List.length_cons]
    rw [ih (fun j hj => by have := h (j + 1) (by simp; omega); simpa using this)]
set_option maxHeartbeats 1000000 in
set_option maxRecDepth 100000 in
theorem Run_any (S : Nat → Prop) (A : Option Addr) (n c : Nat) (l : List Int) (from_ : Int) (g : Nat) (caps : Array Value) (p : Int → Bool) (w : World)
    (eg : ∀ args w, (callFunc g args).run Try.prog w = .ok (.enter g args) w)
    (hr : Rd w S 1 A n c (rc l)) (hp : PredOk Try.prog g caps p w) :
    Calls Try.prog 81 #[.slice A n c, .int .i64 from_, .func (.func g) #[] caps] w fun e w' => e = .returned (.int .i64 (runF p l from_)) ∧ Below w.heap.size w w' := by
  have hl : n = l.length := by have := hr.len; simpa using this.symm
  have hle := hr.le
  have hmx := hr.max
  have hmx : c ≤ 9223372036854775807 := hmx
  subst hl
  have heq := eql_is (.func g) #[] caps
  by_cases h1 : from_ < 0
  · go_enter Try.func81, Try.ntmps81
    go_wp2
    go_ret
    exact ⟨ret_int (by simp [runF, h1]), Below.refl _ _⟩
  · by_cases h2 : (l.length : Int) < from_
    · go_enter Try.func81, Try.ntmps81
      go_wp2
      go_ret
      exact ⟨ret_int (by simp [runF, h2]), Below.refl _ _⟩
    · obtain ⟨k, rfl⟩ := Int.eq_ofNat_of_zero_le (show 0 ≤ from_ by omega)
      have hk : k ≤ l.length := by omega
      obtain ⟨A', hr2, hsl⟩ := hr.cutL Try.underlying24 (fun _ => by simp [go_sem]) hk (P := Try.prog)
      have hrest : (rc l).drop (k * 1) = rc (l.drop k) := by simp [rc]
      rw [hrest] at hr2
      have HF : Hid (runF p l (k : Int) = ((l.drop k).takeWhile p).length) := Lib.hid (by simp [runF, h1, h2])
      have HR := Lib.hid hr2
      have HP := Lib.hid hp
      have hd1 : decide ((k : Int) < 0) = false := by simp
      have hd2 : decide (l.length < k) = false := by simp; omega
      clear h1 h2 hrest hr hr2 hp
      go_enter Try.func81, Try.ntmps81
      go_wp2
      obtain ⟨m, hm⟩ : ∃ m, m = l.drop k := ⟨_, rfl⟩
      have hml : m.length = l.length - k := by rw [hm]; simp
      rw [← hm] at HR HF
      clear hm
      have HML := Lib.hid hml
      clear hml
      go_loopw [25] (fun i wr => ∃ j : Nat, j ≤ l.length - k ∧ i = .int .i64 j ∧ Hid (Below w.heap.size w wr) ∧ Hid (∀ q, q < j → ∀ h : q < m.length, p m[q] = true)) (fun i _ => l.length - (intOf i).toNat)
      case atStart => exact ⟨0, Nat.zero_le _, rfl, Below.refl _ _, fun q hq => absurd hq (by omega)⟩
      case round =>
        obtain ⟨j, hj, rfl, HB, HQ⟩ := hrel
        by_cases hlt : j < l.length - k
        · obtain ⟨b, o, u, rfl, _, hu, hc⟩ := (HR.out.below HB.out).one hlt
          obtain ⟨hjm, rfl⟩ := rc_get hu
          clear hu
          have hcall := HP.out wr m[j] HB.out
          cases hq : p m[j] with
          | true =>
            rw [hq] at hcall
            have HCALL := Lib.hid hcall
            have HQ1 := Lib.hid hq
            clear hq hcall
            generalize m[j] = r at hc HCALL
            go_wp2_with (go_at_fn g; refine HCALL.out.mono ?_; rintro e w' ⟨rfl, hb'⟩)
            go_roundw
            case rel => exact ⟨j + 1, by omega, by go_num, below_all HB.out hb', fun q hq h => by
              rcases Nat.lt_succ_iff_lt_or_eq.1 hq with h1 | h1
              · exact HQ.out q h1 h
              · subst h1; exact HQ1.out⟩
            case measure => simp [intOf]; omega
          | false =>
            rw [hq] at hcall
            have HCALL := Lib.hid hcall
            have HQ1 := Lib.hid hq
            clear hq hcall
            generalize m[j] = r at hc HCALL
            go_wp2_with (go_at_fn g; refine HCALL.out.mono ?_; rintro e w' ⟨rfl, hb'⟩)
            go_ret
            refine ⟨ret_int ?_, below_all HB.out hb'⟩
            rw [HF.out, takeWhile_at m j hjm HQ1.out (fun q hq => HQ.out q hq (by omega))]
        · go_wp2
          go_ret
          refine ⟨ret_int ?_, HB.out⟩
          have hm := HML.out
          rw [HF.out, takeWhile_all m (fun q hq => HQ.out q (by omega) hq)]
          omega
abbrev spanCells (sp : List (Int × Int)) : List Value := sp.flatMap fun x => [.int .i32 x.1, .int .i32 x.2]
def inSp (r : Int) (sp : List (Int × Int)) : Bool := sp.any fun x => decide (x.1 ≤ r) && decide (r ≤ x.2)
theorem spanCells_get (sp : List (Int × Int)) (j : Nat) (hj : j < sp.length) : (spanCells sp)[j * 2]? = some (.int .i32 sp[j].1) ∧ (spanCells sp)[j * 2 + 1]? = some (.int .i32 sp[j].2) := by
  induction sp generalizing j with
  | nil => simp at hj
  | cons a t ih =>
    cases j with
    | zero => simp [spanCells]
    | succ j =>
      have := ih j (by simpa using hj)
      have e1 : (j + 1) * 2 = j * 2 + 2 := by omega
      rw [e1]
      simpa [spanCells] using this
theorem inSp_succ (r : Int) (sp : List (Int × Int)) (j : Nat) (hj : j < sp.length) :
    inSp r (sp.take (j + 1)) = (inSp r (sp.take j) || (decide (sp[j].1 ≤ r) && decide (r ≤ sp[j].2))) := by
  simp only [inSp, List.take_succ_eq_append_getElem hj, List.any_append]
  simp
theorem inSp_hit (r : Int) (sp : List (Int × Int)) (j : Nat) (hj : j < sp.length) (h1 : sp[j].1 ≤ r) (h2 : r ≤ sp[j].2) : inSp r sp = true := by
  simp only [inSp, List.any_eq_true]
  exact ⟨sp[j], List.getElem_mem hj, by simp [h1, h2]⟩
set_option maxHeartbeats 1000000 in
set_option maxRecDepth 100000 in
theorem in_any (S : Nat → Prop) (A : Option Addr) (n c : Nat) (r : Int) (sp : List (Int × Int)) (w : World) (hr : Rd w S 2 A n c (spanCells sp)) (hn : n = sp.length) :
    Calls Try.prog 109 #[.int .i32 r, .slice A n c] w fun e w' => e = .returned (.bool (inSp r sp)) ∧ Below w.heap.size w w' := by
  have hle := hr.le
  have hmx : c ≤ 9223372036854775807 := hr.max
  subst hn
  have HR := Lib.hid hr
  clear hr
  go_enter Try.func109, Try.ntmps109
  go_wp2
  go_loopw [9] (fun i wr => ∃ j : Nat, j ≤ sp.length ∧ i = .int .i64 j ∧ Hid (Below w.heap.size w wr) ∧ Hid (inSp r (sp.take j) = false)) (fun i _ => sp.length - (intOf i).toNat)
  case atStart => exact ⟨0, Nat.zero_le _, rfl, Below.refl _ _, rfl⟩
  case round =>
    obtain ⟨j, hj, rfl, HB, HQ⟩ := hrel
    by_cases hlt : j < sp.length
    · obtain ⟨b, o, rfl, _, hcs⟩ := (HR.out.below HB.out).at_ (by omega)
      obtain ⟨g0, g1⟩ := spanCells_get sp j hlt
      have hc0 := hcs _ _ g0
      have hc1 : wr.cell? ⟨b, o + j * 2 + 1, none⟩ = _ := hcs _ _ g1
      clear g0 g1 hcs
      generalize e0 : sp[j].1 = lo at hc0
      generalize e1 : sp[j].2 = hi at hc1
      have HS := Lib.hid (inSp_succ r sp j hlt)
      rw [e0, e1] at HS
      have HN := Lib.hid (inSp_hit r sp j hlt)
      rw [e0, e1] at HN
      clear e0 e1
      go_wp2
      · go_ret
        exact ⟨ret_bool (by rw [HN.out (by assumption) (by assumption)]), (HB.out.alloc HB.out.size _).trans (Below.refl _ _)⟩
      · go_roundw
        case rel =>
          have h : hi < r := by assumption
          exact ⟨j + 1, by omega, by go_num, HB.out.alloc HB.out.size _, by rw [Hid, HS.out, HQ.out]; simp; omega⟩
        case measure => simp [intOf]; omega
      · go_roundw
        case rel =>
          have h : ¬ lo ≤ r := by assumption
          exact ⟨j + 1, by omega, by go_num, HB.out.alloc HB.out.size _, by rw [Hid, HS.out, HQ.out]; simp; omega⟩
        case measure => simp [intOf]; omega
    · have e : sp.take j = sp := List.take_of_length_le (by omega)
      rw [e] at HQ
      clear e
      go_wp2
      go_ret
      exact ⟨ret_bool HQ.out.symm, HB.out⟩
end Go.Proofs.Ytblafdmmebiagaa
namespace Go.Proofs.Ytblafdmmebiagaa
open Go.RowKit
def startSp : List (Int × Int) := [(97, 122), (65, 90), (58, 58), (95, 95), (0xC0, 0xD6), (0xD8, 0xF6), (0xF8, 0x2FF), (0x370, 0x37D),
  (0x37F, 0x1FFF), (0x200C, 0x200D), (0x2070, 0x218F), (0x2C00, 0x2FEF), (0x3001, 0xD7FF), (0xF900, 0xFDCF), (0xFDF0, 0xFFFD), (0x10000, 0xEFFFF)]
def moreSp : List (Int × Int) := [(48, 57), (45, 46), (0xB7, 0xB7), (0x300, 0x36F), (0x203F, 0x2040)]
def isNameStart (r : Int) : Bool := inSp r startSp
def isNameChar (r : Int) : Bool := isNameStart r || inSp r moreSp
set_option maxHeartbeats 400000 in
set_option maxRecDepth 100000 in
theorem NameStart_any (r : Int) (w : World) : Calls Try.prog 100 #[.int .i32 r] w fun e w' => e = .returned (.bool (isNameStart r)) ∧ Below w.heap.size w w' := by
  go_enter Try.func100, Try.ntmps100
  go_wp2_with fail
  refine (in_any _ _ 16 16 r startSp _ (Rd.lit w _ _ 2 16 rfl (by decide)) rfl).mono ?_
  rintro e w' ⟨rfl, hb⟩
  go_wp2
  go_ret
  exact ⟨rfl, below_all ((Below.refl _ _).alloc (Nat.le_refl _) _) hb⟩
set_option maxHeartbeats 400000 in
set_option maxRecDepth 100000 in
theorem NameChar_any (r : Int) (w : World) : Calls Try.prog 101 #[.int .i32 r] w fun e w' => e = .returned (.bool (isNameChar r)) ∧ Below w.heap.size w w' := by
  have HN := Lib.hid (NameStart_any r w)
  cases hq : isNameStart r with
  | true =>
    rw [hq] at HN
    have HI : Hid (isNameChar r = true) := by rw [Hid, isNameChar, hq]; rfl
    clear hq
    go_enter Try.func101, Try.ntmps101
    go_wp2_with (go_at_call 100; refine HN.out.mono ?_; rintro e w' ⟨rfl, hb⟩)
    go_ret
    exact ⟨ret_bool HI.out.symm, hb⟩
  | false =>
    rw [hq] at HN
    have HI : Hid (isNameChar r = inSp r moreSp) := by rw [Hid, isNameChar, hq]; rfl
    clear hq
    go_enter Try.func101, Try.ntmps101
    go_wp2_with (go_at_call 100; refine HN.out.mono ?_; rintro e w' ⟨rfl, hb⟩)
    refine (in_any _ _ 5 5 r moreSp _ (Rd.lit w' _ _ 2 5 rfl (by decide)) rfl).mono ?_
    rintro e w2 ⟨rfl, hb2⟩
    go_wp2
    go_ret
    exact ⟨ret_bool HI.out.symm, below_all (hb.alloc hb.size _) hb2⟩
def digitF (r : Int) : Int × Bool := if r < 48 ∨ 57 < r then (0, false) else (r - 48, true)
def hexF (r : Int) : Int × Bool := if 97 ≤ r ∧ r ≤ 102 then (r - 97 + 10, true) else if 65 ≤ r ∧ r ≤ 70 then (r - 65 + 10, true) else digitF r
set_option maxHeartbeats 400000 in
set_option maxRecDepth 100000 in
theorem Digit_any (r : Int) (w : World) : Calls Try.prog 107 #[.int .i32 r] w fun e w' => e = .returned (.tuple #[.int .i64 (digitF r).1, .bool (digitF r).2]) ∧ w = w' := by
  by_cases h1 : r < 48
  · go_enter Try.func107, Try.ntmps107
    go_wp2
    go_ret2
    exact ⟨ret_ib (if_pos (.inl h1)), rfl⟩
  · by_cases h2 : 57 < r
    · go_enter Try.func107, Try.ntmps107
      go_wp2
      go_ret2
      exact ⟨ret_ib (if_pos (.inr h2)), rfl⟩
    · go_enter Try.func107, Try.ntmps107
      go_wp2
      go_ret2
      exact ⟨ret_ib (if_neg (by omega)), rfl⟩
set_option maxHeartbeats 400000 in
set_option maxRecDepth 100000 in
theorem Hex_any (r : Int) (w : World) : Calls Try.prog 108 #[.int .i32 r] w fun e w' => e = .returned (.tuple #[.int .i64 (hexF r).1, .bool (hexF r).2]) ∧ w = w' := by
  have HD := Lib.hid (Digit_any r w)
  by_cases h1 : 97 ≤ r ∧ r ≤ 102
  · obtain ⟨h2, h3⟩ := h1
    go_enter Try.func108, Try.ntmps108
    go_wp2
    go_ret2
    exact ⟨ret_ib (if_pos ⟨h2, h3⟩), rfl⟩
  · by_cases h2 : 65 ≤ r ∧ r ≤ 70
    · obtain ⟨h3, h4⟩ := h2
      have h5 : ¬ 97 ≤ r := by omega
      clear h1
      go_enter Try.func108, Try.ntmps108
      go_wp2
      go_ret2
      exact ⟨ret_ib (by rw [hexF, if_neg (by omega), if_pos ⟨h3, h4⟩]), rfl⟩
    · have HF : Hid (hexF r = digitF r) := by simp [Hid, hexF, h1, h2]
      generalize hexF r = z at HF ⊢
      generalize digitF r = y at HD HF
      by_cases h3 : 97 ≤ r
      · have h4 : ¬ r ≤ 102 := by omega
        have h5 : 65 ≤ r := by omega
        have h6 : ¬ r ≤ 70 := by omega
        clear h1 h2
        go_enter Try.func108, Try.ntmps108
        go_wp2_with (go_at_call 107; refine HD.out.mono ?_; rintro e w' ⟨rfl, rfl⟩)
        go_ret2
        exact ⟨ret_ib HF.out, rfl⟩
      · by_cases h5 : 65 ≤ r
        · have h6 : ¬ r ≤ 70 := by omega
          clear h1 h2
          go_enter Try.func108, Try.ntmps108
          go_wp2_with (go_at_call 107; refine HD.out.mono ?_; rintro e w' ⟨rfl, rfl⟩)
          go_ret2
          exact ⟨ret_ib HF.out, rfl⟩
        · clear h1 h2
          go_enter Try.func108, Try.ntmps108
          go_wp2_with (go_at_call 107; refine HD.out.mono ?_; rintro e w' ⟨rfl, rfl⟩)
          go_ret2
          exact ⟨ret_ib HF.out, rfl⟩
end Go.Proofs.Ytblafdmmebiagaa
namespace Go.Proofs.Ytblafdmmebiagaa
open Go.RowKit Go.Lib
end Go.Proofs.Ytblafdmmebiagaa
namespace Go.Proofs.Ytblafdmmebiagaa
open Go.RowKit Go.Lib
theorem Rd.rune {w : World} {S : Nat → Prop} {n c : Nat} {A : Option Addr} {l : List Int} (h : Rd w S 1 A n c (rc l)) {k : Nat} (hk : k < l.length) :
    ∃ b o, A = some ⟨b, o, none⟩ ∧ w.cell? ⟨b, o + k, none⟩ = some (.int .i32 l[k]) := by
  have hl := h.len
  obtain ⟨b, o, u, e, _, hu, hc⟩ := h.one (k := k) (by simp at hl; omega)
  obtain ⟨_, rfl⟩ := rc_get hu
  exact ⟨b, o, e, hc⟩
theorem Rd.rlen {w : World} {S : Nat → Prop} {n c : Nat} {A : Option Addr} {l : List Int} (h : Rd w S 1 A n c (rc l)) : n = l.length := by have := h.len; simpa using this.symm
theorem NameChar_ok (w : World) : PredOk Try.prog 101 #[] isNameChar w := fun W r _ => NameChar_any r W
theorem eg_NameChar : ∀ args w, (callFunc 101 args).run Try.prog w = .ok (.enter 101 args) w := enters_of Try.func101 (by kernel_rfl) rfl
def leadF (l : List Int) (k : Nat) : Nat := match l[k]? with
  | none => 0
  | some r => if isNameStart r then ((l.drop k).takeWhile isNameChar).length else 0
set_option maxHeartbeats 1000000 in
set_option maxRecDepth 100000 in
theorem NLead_any (S : Nat → Prop) (A : Option Addr) (n c : Nat) (l : List Int) (k : Nat) (w : World) (hr : Rd w S 1 A n c (rc l)) (hk : k ≤ 1000000000) :
    Calls Try.prog 86 #[.slice A n c, .int .i64 k] w fun e w' => e = .returned (.int .i64 (leadF l k)) ∧ Below w.heap.size w w' := by
  obtain rfl := hr.rlen
  have hle := hr.le
  have hmx : c ≤ 9223372036854775807 := hr.max
  have HR := Lib.hid hr
  clear hr
  by_cases hlt : k < l.length
  · obtain ⟨b, o, rfl, hc0⟩ := HR.out.rune hlt
    have hkl : ¬ (k : Int) ≥ (l.length : Int) := by omega
    have HS := fun w => Lib.hid (NameStart_any l[k] w)
    have HL : Hid (leadF l k = if isNameStart l[k] then ((l.drop k).takeWhile isNameChar).length else 0) := by rw [Hid, leadF, List.getElem?_eq_getElem hlt]
    have HF : Hid (runF isNameChar l k = ((l.drop k).takeWhile isNameChar).length) := by rw [Hid, runF, if_neg (by omega), Int.toNat_natCast]
    generalize l[k] = r at hc0 HS HL
    cases hs : isNameStart r with
    | true =>
      rw [hs] at HS HL
      go_enter Try.func86, Try.ntmps86
      go_wp2_with (first
        | (go_at_call 100; refine (HS _).out.mono ?_; rintro e w' ⟨rfl, hb⟩)
        | (go_at_call 81; refine (Run_any S _ l.length c l k _ #[] isNameChar w' eg_NameChar (HR.out.below hb) (NameChar_ok w')).mono ?_; rintro e w2 ⟨rfl, hb2⟩))
      go_ret
      exact ⟨ret_int (by rw [HL.out, HF.out]; rfl), hb.trans (hb2.mono hb.size)⟩
    | false =>
      rw [hs] at HS HL
      go_enter Try.func86, Try.ntmps86
      go_wp2_with (go_at_call 100; refine (HS _).out.mono ?_; rintro e w' ⟨rfl, hb⟩)
      go_ret
      exact ⟨ret_int (by rw [HL.out]; rfl), hb⟩
  · have hkl : (k : Int) ≥ (l.length : Int) := by omega
    have HL : Hid (leadF l k = 0) := by rw [Hid, leadF, List.getElem?_eq_none (by omega)]
    go_enter Try.func86, Try.ntmps86
    go_wp2
    go_ret
    exact ⟨ret_int (by rw [HL.out]; rfl), Below.refl _ _⟩
end Go.Proofs.Ytblafdmmebiagaa
namespace Go.Proofs.Ytblafdmmebiagaa
open Go.RowKit Go.Lib
def bi (l : List UInt8) : List Int := l.map fun b => (b.toNat : Int)
theorem getD_at {l : List Int} {k : Nat} (h : k < l.length) : l.getD k 0 = l[k] := by simp [List.getD, h]
end Go.Proofs.Ytblafdmmebiagaa
namespace Go.Proofs.Ytblafdmmebiagaa
open Go.RowKit Go.Lib
abbrev IterIn (wr : World) (ib : Nat) (s : ByteArray) (pos : Nat) : Prop := wr.heap[ib]? = some (.stringIter s pos)
theorem IterIn.lt {wr : World} {ib : Nat} {s : ByteArray} {pos : Nat} (h : IterIn wr ib s pos) : ib < wr.heap.size := (Array.getElem?_eq_some_iff.1 h).1
theorem IterIn.set {wr : World} {ib : Nat} {s : ByteArray} {pos pos' : Nat} (h : IterIn wr ib s pos) : IterIn (World.iterSet wr ib s pos') ib s pos' := by
  have hlt := IterIn.lt h
  show (wr.heap.setIfInBounds ib _)[ib]? = _
  rw [Array.getElem?_setIfInBounds_self_of_lt hlt]
theorem IterIn.grown {wr w2 : World} {ib : Nat} {s : ByteArray} {pos : Nat} {row : Option Nat} (h : IterIn wr ib s pos) (hg : wr.grownBy w2 row) (hr : row ≠ some ib) : IterIn w2 ib s pos :=
  (hg.block ib (IterIn.lt h) (fun e => hr e.symm)).trans h
theorem IterIn.alloc {wr : World} {ib : Nat} {s : ByteArray} {pos : Nat} (h : IterIn wr ib s pos) (o : Obj) : IterIn (wr.alloc o) ib s pos := (Below.heap_alloc wr o _ (IterIn.lt h)).trans h
end Go.Proofs.Ytblafdmmebiagaa
namespace Go.Proofs.Ytblafdmmebiagaa
open Go.RowKit Go.Lib
end Go.Proofs.Ytblafdmmebiagaa
namespace Go.Proofs.Ytblafdmmebiagaa
open Go.RowKit Go.Lib
end Go.Proofs.Ytblafdmmebiagaa
namespace Go.Proofs.Ytblafdmmebiagaa
open Go.RowKit Go.Lib
end Go.Proofs.Ytblafdmmebiagaa
namespace Go.Proofs.Ytblafdmmebiagaa
open Go.RowKit Go.Lib
theorem RunesV.lit (w : World) (B : Nat) (hB : w.heap.size = B) (t : TypeId) (l : List Int) (n : Nat) (hn : l.length = n) (hm : n ≤ maxLen) (cs : Array Value) (hcs : cs.toList = rc l) : RunesV (w.alloc (.cells cs t)) (.slice (some ⟨B, 0, none⟩) n n) l := by
  subst hn
  refine .of_rd (S := fun b => B ≤ b) ?_
  have := Rd.litN w B hB t cs 1 l.length (by have := congrArg List.length hcs; simpa using this) hm
  rwa [hcs] at this
theorem RunesV.len {w : World} {v : Value} {l : List Int} (h : RunesV w v l) : ∃ A c, v = .slice A l.length c ∧ Rd w (fun _ => True) 1 A l.length c (rc l) := by
  obtain ⟨A, n, c, rfl, hr⟩ := h
  obtain rfl := hr.rlen
  exact ⟨A, c, rfl, hr⟩
theorem RowsV.lit (w : World) (B : Nat) (hB : w.heap.size = B) (t : TypeId) (vs : List Value) (ls : List (List Int)) (n : Nat) (hn : vs.length = n) (hl : vs.length = ls.length) (hm : n ≤ maxLen)
    (h : ∀ (i : Nat) (v : Value) (l : List Int), vs[i]? = some v → ls[i]? = some l → RunesV w v l) (cs : Array Value) (hcs : cs.toList = vs) : RowsV (w.alloc (.cells cs t)) (some ⟨B, 0, none⟩) n n ls vs := by
  subst hcs
  refine ⟨?_, hl, fun i v l h1 h2 => (h i v l h1 h2).alloc _⟩
  subst hn
  exact (Rd.litN w B hB t cs 1 cs.toList.length (by simp) hm).more fun _ _ => trivial
end Go.Proofs.Ytblafdmmebiagaa
