/-
  Layer 23 (escape): a row of pairs; the search in it; the statement's own few, short, same.
-/
import Derived.Test.YtbbplpmaknaadaaEscC
import Derived.Test.YtbbplpmaknaadaaNormB
namespace Go.Proofs.Ytbbplpmaknaadaa
open Go.RowKit Go.Lib

set_option maxHeartbeats 1000000 in
set_option maxRecDepth 100000 in
theorem few23_any (S : Nat → Prop) (A : Option Addr) (n c : Nat) (l : List Int) (w : World) (hr : Rd w S 1 A n c (rc l)) :
    Calls Try.prog 23 #[.slice A n c] w fun e w' => ∃ A' n', e = .returned (.slice A' n' c) ∧ Rd w S 1 A' n' c (rc (l.take 60)) ∧ w = w' := by
  obtain rfl := hr.rlen
  have hle := hr.le
  have hmx : c ≤ 9223372036854775807 := hr.max
  by_cases h : 60 < l.length
  · have hr2 := hr.take (k := 60) (by omega)
    rw [show (rc l).take (60 * 1) = rc (l.take 60) by rw [Nat.mul_one, rc, rc, List.map_take]] at hr2
    have HR := Lib.hid hr2
    clear hr2 hr
    go_enter Try.func23, Try.ntmps23
    go_wp2
    go_ret
    exact ⟨_, _, rfl, HR.out, rfl⟩
  · rw [show l.take 60 = l from List.take_of_length_le (by omega)]
    have HR := Lib.hid hr
    clear hr
    go_enter Try.func23, Try.ntmps23
    go_wp2
    go_ret
    exact ⟨_, _, rfl, HR.out, rfl⟩

set_option maxHeartbeats 1000000 in
set_option maxRecDepth 100000 in
theorem short23_any (s : ByteArray) (w : World) :
    Calls Try.prog 24 #[.string s] w fun e w' => ∃ t : ByteArray, e = .returned (.string t) ∧ t.size ≤ 30 ∧ w = w' := by
  by_cases h : 30 < s.size
  · go_enter Try.func24, Try.ntmps24
    go_wp2
    go_ret
    exact ⟨_, rfl, by simp [ByteArray.size_extract]; omega, rfl⟩
  · go_enter Try.func24, Try.ntmps24
    go_wp2
    go_ret
    exact ⟨_, rfl, by omega, rfl⟩

/-- what 'same' answers -/
def sameF (a : List Int) (ok : Bool) (b : List Int) (is : Bool) : Bool := if (ok != is || !ok) then (ok == is && a.length == 0) else a == b

set_option maxHeartbeats 2000000 in
set_option maxRecDepth 100000 in
theorem same23t_any (S T : Nat → Prop) (A B : Option Addr) (n c m d : Nat) (l k : List Int) (w : World) (hr : Rd w S 1 A n c (rc l)) (ht : Rd w T 1 B m d (rc k)) :
    Calls Try.prog 33 #[.slice A n c, .bool true, .slice B m d, .bool true] w fun e w' => e = .returned (.bool (l == k)) ∧ Below w.heap.size w w' := by
  have hl : n = l.length := by have := hr.len; simpa using this.symm
  have hk : m = k.length := by have := ht.len; simpa using this.symm
  have hle := hr.le
  have hmx : c ≤ 9223372036854775807 := hr.max
  have hle2 := ht.le
  have hmx2 : d ≤ 9223372036854775807 := ht.max
  subst hl hk
  by_cases hne : l.length = k.length
  · have HR := Lib.hid hr
    have HT := Lib.hid ht
    have hd : ((l.length : Int) != (k.length : Int)) = false := by simp [hne]
    have hd2 : (l.length != k.length) = false := by simp [hne]
    have HE := Lib.hid hne
    have h1 : l.length ≤ k.length := by omega
    have h2 : k.length ≤ l.length := by omega
    clear hr ht hne
    go_enter Try.func33, Try.ntmps33
    go_wp2
    go_loopw [32] (fun i wr => ∃ (j : Nat), j ≤ l.length ∧ i = .int .i64 j ∧ Hid (l.take j = k.take j) ∧ Hid (Below w.heap.size w wr)) (fun i _ => l.length - (intOf i).toNat)
    case atStart => exact ⟨0, Nat.zero_le _, rfl, rfl, Below.refl _ _⟩
    case round =>
      obtain ⟨j, hj, rfl, HS, HB⟩ := hrel
      by_cases hlt : j < l.length
      · obtain ⟨b, o, u, rfl, _, hu, hc⟩ := (HR.out.below HB.out).one hlt
        obtain ⟨hjm, rfl⟩ := rc_get hu
        obtain ⟨b2, o2, u2, rfl, _, hu2, hc2⟩ := (HT.out.below HB.out).one (k := j) (by omega)
        obtain ⟨hjm2, rfl⟩ := rc_get hu2
        clear hu hu2
        have hjk : (j : Int) < (k.length : Int) := by omega
        have hjl : (j : Int) < (l.length : Int) := by omega
        have HX : Hid (∃ h1 h2, l[j]'h1 = l[j] ∧ k[j]'h2 = k[j]) := ⟨hlt, hjm2, rfl, rfl⟩
        generalize e1 : l[j] = x at hc
        generalize e2 : k[j] = y at hc2
        have E1 := Lib.hid e1
        have E2 := Lib.hid e2
        clear e1 e2 HX
        by_cases hxy : x = y
        rotate_left
        · have hb : (x != y) = true := by simpa using hxy
          have HX := Lib.hid hxy
          clear hxy
          go_wp2
          go_quiet (fail)
          go_wp2
          go_ret
          refine ⟨ret_bool ?_, below_drewN HB.out _⟩
          rw [eq_comm, beq_eq_false_iff_ne]
          rintro rfl
          exact HX.out (E1.out.symm.trans E2.out)
        · have hb : (x != y) = false := by simpa using hxy
          have HX := Lib.hid hxy
          clear hxy
          go_wp2
          go_quiet (fail)
          go_wp2
          go_roundw
          case rel =>
            refine ⟨j + 1, by omega, by go_num, ?_, below_drewN HB.out _⟩
            rw [Hid, List.take_succ_eq_append_getElem hjm, List.take_succ_eq_append_getElem hjm2, HS.out, E1.out, E2.out, HX.out]
          case measure => simp [intOf]; omega
      · have hjl : ¬ (j : Int) < (l.length : Int) := by omega
        have e : l.take j = l := List.take_of_length_le (by omega)
        rw [e] at HS
        have e2 : k.take j = k := List.take_of_length_le (by omega)
        rw [e2] at HS
        clear e e2
        go_wp2
        go_ret
        exact ⟨ret_bool (by rw [HS.out]; simp), HB.out⟩
  · have hd : ((l.length : Int) != (k.length : Int)) = true := by rw [bne_iff_ne]; omega
    have hd2 : (l.length != k.length) = true := by simpa using hne
    have HE := Lib.hid hne
    clear hne hr ht
    go_enter Try.func33, Try.ntmps33
    go_wp2
    go_ret
    exact ⟨ret_bool (by rw [eq_comm, beq_eq_false_iff_ne]; rintro rfl; exact HE.out rfl), Below.refl _ _⟩


set_option maxHeartbeats 1000000 in
set_option maxRecDepth 100000 in
theorem same23f_any (A B : Option Addr) (n c m d : Nat) (ok is : Bool) (h : (ok != is || !ok) = true) (w : World) :
    Calls Try.prog 33 #[.slice A n c, .bool ok, .slice B m d, .bool is] w fun e w' => e = .returned (.bool (ok == is && n == 0)) ∧ Below w.heap.size w w' := by
  cases ok <;> cases is <;> simp at h
  all_goals
    go_enter Try.func33, Try.ntmps33
    go_wp2
    all_goals
      go_ret
      exact ⟨ret_bool (by first | rfl | (rw [Bool.eq_iff_iff]; simp; done) | (rw [Bool.eq_iff_iff]; simp; omega)), Below.refl _ _⟩

/-- the same answer, or none, on both sides -/
theorem same23_opt (w : World) (v1 v2 : Value) (r : Option (List Int)) (h1 : RunesV w v1 (r.getD [])) (h2 : RunesV w v2 (r.getD [])) :
    Calls Try.prog 33 #[v1, .bool r.isSome, v2, .bool r.isSome] w fun e w' => e = .returned (.bool true) ∧ Below w.heap.size w w' := by
  obtain ⟨A, c, rfl, hr⟩ := h1.len
  obtain ⟨B, d, rfl, ht⟩ := h2.len
  cases r with
  | none =>
    refine (same23f_any A B _ c _ d false false rfl w).mono ?_
    rintro e w' ⟨rfl, hb⟩
    exact ⟨rfl, hb⟩
  | some l =>
    refine (same23t_any _ _ A B _ c _ d l l w hr ht).mono ?_
    rintro e w' ⟨rfl, hb⟩
    exact ⟨by simp, hb⟩

/-! ### pairs -/
abbrev PairL := List (ByteArray × List Int)
def pairCells : PairL → List Value → List Value
  | p :: ps, v :: vs => .string p.1 :: v :: pairCells ps vs
  | _, _ => []
theorem pairCells_len : ∀ (ps : PairL) (vs : List Value), vs.length = ps.length → (pairCells ps vs).length = ps.length * 2
  | [], [], _ => rfl
  | p :: ps, v :: vs, h => by
    have := pairCells_len ps vs (by simpa using h)
    simp only [pairCells, List.length_cons, this]; omega
  | [], _ :: _, h => by simp at h
  | _ :: _, [], h => by simp at h
theorem pairCells_get : ∀ (ps : PairL) (vs : List Value) (k : Nat) (h : k < ps.length) (h2 : k < vs.length),
    (pairCells ps vs)[k * 2]? = some (.string ps[k].1) ∧ (pairCells ps vs)[k * 2 + 1]? = some vs[k]
  | [], _, _, h, _ => absurd h (by simp)
  | _ :: _, [], _, _, h => absurd h (by simp)
  | p :: ps, v :: vs, 0, _, _ => ⟨rfl, rfl⟩
  | p :: ps, v :: vs, k + 1, h, h2 => by
    have ih := pairCells_get ps vs k (by simpa using h) (by simpa using h2)
    have e : ∀ i, (pairCells (p :: ps) (v :: vs))[(k + 1) * 2 + i]? = (pairCells ps vs)[k * 2 + i]? := fun i => by
      show (Value.string p.1 :: v :: pairCells ps vs)[(k + 1) * 2 + i]? = _
      rw [show (k + 1) * 2 + i = (k * 2 + i) + 1 + 1 by omega]
      rfl
    exact ⟨(e 0).trans ih.1, (e 1).trans ih.2⟩
theorem pairCells_take : ∀ (ps : PairL) (vs : List Value) (k : Nat), (pairCells ps vs).take (k * 2) = pairCells (ps.take k) (vs.take k)
  | _, _, 0 => by simp [pairCells]
  | [], _, k + 1 => by simp [pairCells]
  | _ :: _, [], k + 1 => by simp [pairCells]
  | p :: ps, v :: vs, k + 1 => by
    have ih := pairCells_take ps vs k
    rw [show (k + 1) * 2 = k * 2 + 1 + 1 by omega]
    simp [pairCells, ih]

structure PairsV (w : World) (S : Nat → Prop) (A : Option Addr) (n c : Nat) (ps : PairL) (vs : List Value) : Prop where
  rd : Rd w S 2 A n c (pairCells ps vs)
  len : vs.length = ps.length
  each : ∀ (k : Nat) (h : k < ps.length) (h2 : k < vs.length), RunesV w vs[k] ps[k].2
theorem PairsV.below {w w' : World} {S : Nat → Prop} {A : Option Addr} {n c : Nat} {ps : PairL} {vs : List Value} (h : PairsV w S A n c ps vs) (hb : Below w.heap.size w w') : PairsV w' S A n c ps vs :=
  ⟨h.rd.below hb, h.len, fun k h1 h2 => (h.each k h1 h2).below hb⟩
theorem PairsV.n_eq {w : World} {S : Nat → Prop} {A : Option Addr} {n c : Nat} {ps : PairL} {vs : List Value} (h : PairsV w S A n c ps vs) : n = ps.length := by
  have h1 := h.rd.len
  rw [pairCells_len _ _ h.len] at h1
  omega
theorem PairsV.take {w : World} {S : Nat → Prop} {A : Option Addr} {n c : Nat} {ps : PairL} {vs : List Value} (h : PairsV w S A n c ps vs) {k : Nat} (hk : k ≤ n) : PairsV w S A k c (ps.take k) (vs.take k) := by
  refine ⟨by rw [← pairCells_take]; exact h.rd.take hk, by simp [h.len], fun j h1 h2 => ?_⟩
  rw [List.getElem_take, List.getElem_take]
  exact h.each j _ _
theorem PairsV.pair {w : World} {S : Nat → Prop} {A : Option Addr} {n c : Nat} {ps : PairL} {vs : List Value} (h : PairsV w S A n c ps vs) {k : Nat} (hk : k < ps.length) :
    ∃ b u Av cv, A = some ⟨b, u, none⟩ ∧ w.cell? ⟨b, u + k * 2, none⟩ = some (.string ps[k].1) ∧ w.cell? ⟨b, u + k * 2 + 1, none⟩ = some (.slice Av ps[k].2.length cv) ∧ Rd w (fun b => b < w.heap.size) 1 Av ps[k].2.length cv (rc ps[k].2) := by
  have hn := h.n_eq
  have hl := h.len
  obtain ⟨b, u, e, _, hc⟩ := h.rd.at_ (by omega)
  obtain ⟨g1, g2⟩ := pairCells_get ps vs k hk (by omega)
  have c1 := hc _ _ g1
  have c2 := hc _ _ g2
  obtain ⟨Av, cv, ev, hr⟩ := (h.each k hk (by omega)).lenB
  rw [ev] at c2
  exact ⟨b, u, Av, cv, e, c1, c2, hr⟩

/-- a function value that answers a question on pairs by the name alone -/
def NamedOk (P : Program) (g : Nat) (caps : Array Value) (p : ByteArray → Bool) (w : World) : Prop :=
  ∀ (W : World) (nm : ByteArray) (A : Option Addr) (n c : Nat), Below w.heap.size w W → Calls P g (#[.agg #[.string nm, .slice A n c]] ++ caps) W fun e W' => e = .returned (.bool (p nm)) ∧ Below W.heap.size W W'

set_option maxHeartbeats 1000000 in
set_option maxRecDepth 100000 in
theorem IndexPair_any (S : Nat → Prop) (A : Option Addr) (n c : Nat) (ps : PairL) (vs : List Value) (g : Nat) (caps : Array Value) (p : ByteArray → Bool) (w : World)
    (eg : ∀ args w, (callFunc g args).run Try.prog w = .ok (.enter g args) w)
    (hr : PairsV w S A n c ps vs) (hp : NamedOk Try.prog g caps p w) :
    Calls Try.prog 83 #[.slice A n c, .func (.func g) #[] caps] w fun e w' => ∃ k : Int, e = .returned (.int .i64 k) ∧ (ps.any (fun x => p x.1) = decide (0 ≤ k)) ∧ Below w.heap.size w w' := by
  have hle := hr.rd.le
  have hmx : c ≤ 9223372036854775807 := hr.rd.max
  obtain rfl := hr.n_eq
  have HR := Lib.hid hr
  have HP := Lib.hid hp
  clear hr hp
  go_enter Try.func83, Try.ntmps83
  go_wp2
  go_loopw [8] (fun i wr => ∃ (j : Nat), j ≤ ps.length ∧ i = .int .i64 j ∧ Hid ((ps.take j).any (fun x => p x.1) = false) ∧ Hid (Below w.heap.size w wr)) (fun i _ => ps.length - (intOf i).toNat)
  case atStart => exact ⟨0, Nat.zero_le _, rfl, rfl, Below.refl _ _⟩
  case round =>
    obtain ⟨j, hj, rfl, HS, HB⟩ := hrel
    by_cases hlt : j < ps.length
    · obtain ⟨b, u, Av, cv, rfl, hc0, hc1, hrv⟩ := (HR.out.below HB.out).pair hlt
      have hcall := HP.out wr ps[j].1 Av ps[j].2.length cv HB.out
      cases hq : p ps[j].1 with
      | true =>
        have HE : Hid (ps.any (fun x => p x.1) = true) := by rw [Hid, List.any_eq_true]; exact ⟨ps[j], List.getElem_mem hlt, hq⟩
        rw [hq] at hcall
        have HCALL := Lib.hid hcall
        clear hq hcall hrv
        generalize ps[j].1 = nm at hc0 HCALL
        generalize ps[j].2.length = nv at hc1 HCALL
        go_wp2_with (go_at_fn g; refine HCALL.out.mono ?_; rintro e w' ⟨rfl, hb'⟩)
        go_ret
        exact ⟨j, rfl, by rw [HE.out]; simp, below_all HB.out hb'⟩
      | false =>
        have HS2 : Hid ((ps.take (j + 1)).any (fun x => p x.1) = false) := by rw [Hid, List.take_succ_eq_append_getElem hlt, List.any_append, HS.out]; simp [hq]
        rw [hq] at hcall
        have HCALL := Lib.hid hcall
        clear hq hcall hrv
        generalize ps[j].1 = nm at hc0 HCALL
        generalize ps[j].2.length = nv at hc1 HCALL
        go_wp2_with (go_at_fn g; refine HCALL.out.mono ?_; rintro e w' ⟨rfl, hb'⟩)
        go_roundw
        case rel => exact ⟨j + 1, by omega, by go_num, HS2.out, below_all HB.out hb'⟩
        case measure => simp [intOf]; omega
    · have e : ps.take j = ps := List.take_of_length_le (by omega)
      rw [e] at HS
      clear e
      go_wp2
      go_ret
      exact ⟨-1, rfl, by rw [HS.out]; rfl, HB.out⟩

set_option maxHeartbeats 1000000 in
set_option maxRecDepth 100000 in
theorem ContainsPair_any (S : Nat → Prop) (A : Option Addr) (n c : Nat) (ps : PairL) (vs : List Value) (g : Nat) (caps : Array Value) (p : ByteArray → Bool) (w : World)
    (eg : ∀ args w, (callFunc g args).run Try.prog w = .ok (.enter g args) w)
    (hr : PairsV w S A n c ps vs) (hp : NamedOk Try.prog g caps p w) :
    Calls Try.prog 63 #[.slice A n c, .func (.func g) #[] caps] w fun e w' => e = .returned (.bool (ps.any (fun x => p x.1))) ∧ Below w.heap.size w w' := by
  have HC := Lib.hid (IndexPair_any S A n c ps vs g caps p w eg hr hp)
  clear hr hp
  go_enter Try.func63, Try.ntmps63
  go_wp2_with fail
  refine HC.out.mono ?_
  rintro e w1 ⟨k, rfl, hk, hb⟩
  have HK := Lib.hid hk
  clear hk
  go_wp2
  go_ret
  exact ⟨ret_bool HK.out.symm, hb⟩

end Go.Proofs.Ytbbplpmaknaadaa
