/-
  Layer 23 (escape): Attr, End: the program's and the document's. Rows of at most 10000000 runes, names of at most 10000000 bytes.
-/
import Derived.Test.YtbbplpmaknaadaaEscB
namespace Go.Proofs.Ytbbplpmaknaadaa
open Go.RowKit Go.Lib

theorem cell_keep {w1 w2 : World} {p : Addr} {v : Value} (hb : Below w1.heap.size w1 w2) (h : w1.cell? p = some v) : w2.cell? p = some v :=
  (World.cell?_of_block (hb.block _ (World.block_lt_of_cell? w1 p h))).trans h
theorem box_cell (w : World) (cs : Array Value) (t : TypeId) (k : Nat) {u : Value} (h : cs[k]? = some u) : (w.alloc (.cells cs t)).cell? ⟨w.heap.size, k, none⟩ = some u := by
  rw [World.cell?_alloc_at _ _ _ _ rfl]; exact h

theorem Rd.bound {w : World} {S : Nat → Prop} {A : Option Addr} {n c : Nat} {xs : List Value} (h : Rd w S 1 A n c xs) : Rd w (fun b => b < w.heap.size) 1 A n c xs :=
  ⟨h.len, h.le, h.max, h.nil, fun hn => by
    obtain ⟨b, o, e, _, hc⟩ := h.at_ hn
    have hl : 0 < xs.length := by rw [h.len]; omega
    exact ⟨b, o, e, World.block_lt_of_cell? w _ (hc 0 _ (List.getElem?_eq_getElem hl)), hc⟩⟩
theorem RunesV.lenB {w : World} {v : Value} {l : List Int} (h : RunesV w v l) : ∃ A c, v = .slice A l.length c ∧ Rd w (fun b => b < w.heap.size) 1 A l.length c (rc l) := by
  obtain ⟨A, c, e, hr⟩ := h.len
  exact ⟨A, c, e, hr.bound⟩
theorem Rd.apart {w w' : World} {B base n c m : Nat} {A : Option Addr} {xs ys : List Value} {e : TypeId} {size : Nat} {v : Value} (h : Rd w (fun b => b < B) 1 A n c xs) (hown : w.ownsRow base e size v m ys) (hB : B ≤ base) (hg : w.grownBy w' v.ownBlock) :
    Rd w' (fun b => b < B) 1 A n c xs :=
  h.grown hg fun g hg hb => by
    have := (hown.lt g hg).1
    have hb : g < B := hb
    omega

def attrF (nm : List UInt8) (l : List Int) (q : Int) : Option (List Int) := match valueF l q with
  | none => none
  | some v => if nameF nm then some ([32] ++ runesF nm ++ [61] ++ v) else none
theorem valueF_len (l : List Int) (q : Int) : ((valueF l q).getD []).length ≤ 6 * l.length + 2 := by
  unfold valueF
  split
  · have := putF_len l q; simp; omega
  · simp
theorem sum4 (a b c d : List Int) : sumLen [a, b, c, d] = a.length + (b.length + (c.length + d.length)) := by simp [sumLen]
theorem RowsEach4 {w : World} {v1 v2 v3 v4 : Value} {l1 l2 l3 l4 : List Int} (h1 : RunesV w v1 l1) (h2 : RunesV w v2 l2) (h3 : RunesV w v3 l3) (h4 : RunesV w v4 l4) :
    ∀ (i : Nat) (v : Value) (l : List Int), [v1, v2, v3, v4][i]? = some v → [l1, l2, l3, l4][i]? = some l → RunesV w v l := by
  intro i v l hv hl
  match i with
  | 0 => simp at hv hl; subst hv hl; exact h1
  | 1 => simp at hv hl; subst hv hl; exact h2
  | 2 => simp at hv hl; subst hv hl; exact h3
  | 3 => simp at hv hl; subst hv hl; exact h4
  | i + 4 => simp at hv

set_option maxHeartbeats 1000000 in
set_option maxRecDepth 100000 in
theorem Attr_any (nm : ByteArray) (S : Nat → Prop) (A : Option Addr) (n c : Nat) (l : List Int) (q : Int) (w : World) (hr : Rd w S 1 A n c (rc l)) (hn9 : l.length ≤ 10000000) (hnm : nm.size ≤ 10000000) :
    Calls Try.prog 27 #[.agg #[.string nm, .slice A n c], .int .i32 q] w fun e w' => OptV w' (attrF nm.data.toList l q) e ∧ Below w.heap.size w w' := by
  have HV := fun W (hW : Below w.heap.size w W) => Lib.hid (Value_any S A n c l q W (hr.below hW) hn9)
  have HN := fun W => Lib.hid (NName_any nm W (by omega))
  have HRU := fun W => Lib.hid (ERunes_any nm W (by omega))
  have HT : Hid (attrF nm.data.toList l q = match valueF l q with
    | none => none
    | some v => if nameF nm.data.toList then some ([32] ++ runesF nm.data.toList ++ [61] ++ v) else none) := rfl
  have HVL := Lib.hid (valueF_len l q)
  have HRL : Hid ((runesF nm.data.toList).length ≤ 10000000) := Nat.le_trans (runesF_len _) (by simpa using hnm)
  generalize attrF nm.data.toList l q = t at HT ⊢
  generalize runesF nm.data.toList = rn at HT HRU HRL
  generalize nameF nm.data.toList = nb at HN HT
  have hc0 := box_cell w #[.string nm, .slice A n c] 45 0 (u := .string nm) rfl
  have hc1 := box_cell w #[.string nm, .slice A n c] 45 1 (u := .slice A n c) rfl
  clear hr
  cases hv : valueF l q with
  | none =>
    rw [hv] at HV HT
    go_enter Try.func27, Try.ntmps27
    go_wp2_with (go_at_call 25; refine (HV _ (ba _ _)).out.mono ?_; rintro e w2 ⟨⟨v, rfl, hrv⟩, hb2⟩)
    go_ret2
    rw [HT.out]
    exact ⟨⟨_, rfl, .nil_ _⟩, bt (ba _ _) hb2⟩
  | some vl =>
    rw [hv] at HV HT HVL
    cases nb with
    | false =>
      go_enter Try.func27, Try.ntmps27
      go_wp2_with (first
        | (go_at_call 25; refine (HV _ (ba _ _)).out.mono ?_; rintro e w2 ⟨⟨v, rfl, hrv⟩, hb2⟩; have hd0 := cell_keep hb2 hc0)
        | (go_at_call 57; refine (HN _).out.mono ?_; rintro e w3 ⟨rfl, hb3⟩))
      go_ret2
      rw [HT.out]
      exact ⟨⟨_, rfl, .nil_ _⟩, bt (bt (ba _ _) hb2) hb3⟩
    | true =>
      go_enter Try.func27, Try.ntmps27
      go_wp2_with (first
        | (go_at_call 25; refine (HV _ (ba _ _)).out.mono ?_; rintro e w2 ⟨⟨v, rfl, hrv⟩, hb2⟩; have hd0 := cell_keep hb2 hc0)
        | (go_at_call 57; refine (HN _).out.mono ?_; rintro e w3 ⟨rfl, hb3⟩; have he0 := cell_keep (ba w3 (.cells #[.int .i32 32] 21)) (cell_keep hb3 hd0))
        | (go_at_call 58
           refine (HRU _).out.mono ?_
           rintro e w4 ⟨v4, rfl, ⟨n4, ho4⟩, hb4⟩
           obtain ⟨Ap, cp, rfl, hrp⟩ := own_form ho4
           obtain ⟨Av, cv, rfl, hrv2⟩ := hrv.len)
        | (go_at_call 53
           refine (Joined_any (some ⟨w4.heap.size + 1, 0, none⟩) 4 4 [[32], rn, [61], vl] _ _ (RowsV.lit _ _ (by simp) _ _ _ 4 rfl rfl (by decide)
               (RowsEach4 (((RunesV.lit w3 _ rfl _ [32] 1 rfl (by decide) _ rfl).below hb4).alloc _) ((RunesV.of_own ho4).alloc _) (RunesV.lit w4 _ rfl _ [61] 1 rfl (by decide) _ rfl)
                 ((((hrv.below hb3).below (ba _ _)).below hb4).alloc _)) _ rfl)
               (by rw [sum4]; have := HVL.out; have := HRL.out; simp at *; omega)).mono ?_
           rintro e w5 ⟨v5, rfl, ⟨n5, ho5⟩, hb5⟩))
      go_ret2
      rw [HT.out]
      exact ⟨⟨_, rfl, .of_own (own_eq ho5 (by simp))⟩, bt (bt (bt (bt (bt (ba _ _) hb2) hb3) (ba _ _)) hb4) (bt (bt (ba _ _) (ba _ _)) hb5)⟩

set_option maxHeartbeats 1000000 in
set_option maxRecDepth 100000 in
theorem RAttr_any (nm : ByteArray) (S : Nat → Prop) (A : Option Addr) (n c : Nat) (l : List Int) (q : Int) (w : World) (hr : Rd w S 1 A n c (rc l)) (hn9 : l.length ≤ 10000000) (hnm : nm.size ≤ 10000000) :
    Calls Try.prog 28 #[.agg #[.string nm, .slice A n c], .int .i32 q] w fun e w' => OptV w' (attrF nm.data.toList l q) e ∧ Below w.heap.size w w' := by
  have HV := fun W (hW : Below w.heap.size w W) => Lib.hid (RValue_any S A n c l q W (hr.below hW) hn9)
  have HN := fun W => Lib.hid (RName_any nm W (by omega))
  have HRU := fun W => Lib.hid (RRunes_any nm W (by omega))
  have HT : Hid (attrF nm.data.toList l q = match valueF l q with
    | none => none
    | some v => if nameF nm.data.toList then some ([32] ++ runesF nm.data.toList ++ [61] ++ v) else none) := rfl
  have HVL := Lib.hid (valueF_len l q)
  have HRL : Hid ((runesF nm.data.toList).length ≤ 10000000) := Nat.le_trans (runesF_len _) (by simpa using hnm)
  generalize attrF nm.data.toList l q = t at HT ⊢
  generalize runesF nm.data.toList = rn at HT HRU HRL
  generalize nameF nm.data.toList = nb at HN HT
  have hc0 := box_cell w #[.string nm, .slice A n c] 47 0 (u := .string nm) rfl
  have hc1 := box_cell w #[.string nm, .slice A n c] 47 1 (u := .slice A n c) rfl
  clear hr
  cases hv : valueF l q with
  | none =>
    rw [hv] at HV HT
    go_enter Try.func28, Try.ntmps28
    go_wp2_with (go_at_call 26; refine (HV _ (ba _ _)).out.mono ?_; rintro e w2 ⟨⟨v, rfl, hrv⟩, hb2⟩)
    go_ret2
    rw [HT.out]
    exact ⟨⟨_, rfl, .nil_ _⟩, bt (ba _ _) hb2⟩
  | some vl =>
    rw [hv] at HV HT HVL
    cases nb with
    | false =>
      go_enter Try.func28, Try.ntmps28
      go_wp2_with (first
        | (go_at_call 26; refine (HV _ (ba _ _)).out.mono ?_; rintro e w2 ⟨⟨v, rfl, hrv⟩, hb2⟩; have hd0 := cell_keep hb2 hc0)
        | (go_at_call 59; refine (HN _).out.mono ?_; rintro e w3 ⟨rfl, hb3⟩))
      go_ret2
      rw [HT.out]
      exact ⟨⟨_, rfl, .nil_ _⟩, bt (bt (ba _ _) hb2) hb3⟩
    | true =>
      go_enter Try.func28, Try.ntmps28
      go_wp2_with (first
        | (go_at_call 26; refine (HV _ (ba _ _)).out.mono ?_; rintro e w2 ⟨⟨v, rfl, hrv⟩, hb2⟩; have hd0 := cell_keep hb2 hc0)
        | (go_at_call 59; refine (HN _).out.mono ?_; rintro e w3 ⟨rfl, hb3⟩; have he0 := cell_keep (ba w3 (.cells #[.int .i32 32] 21)) (cell_keep hb3 hd0))
        | (go_at_call 60
           refine (HRU _).out.mono ?_
           rintro e w4 ⟨v4, rfl, ⟨n4, ho4⟩, hb4⟩
           obtain ⟨Ap, cp, rfl, hrp⟩ := own_form ho4
           have hnp : n4 ≤ 10000000 := by rw [rc_own_len ho4]; exact HRL.out
           have HOL := Lib.hid (own_below (own_litN w3 _ rfl 21 _ 1 1 rfl (by decide) (rc [_]) rfl) hb4)
           have hrv : RunesV w2 v vl := hrv
           obtain ⟨Av, cv, rfl, hrv2⟩ := hrv.lenB
           have HRV := Lib.hid ((hrv2.below hb3).below (bt (ba w3 (.cells #[.int .i32 32] 21)) hb4))
           have hvl : vl.length ≤ 60000002 := by have := HVL.out; simp at this; omega
           have HLE : Hid (w2.heap.size ≤ w3.heap.size) := hb3.size
           have HB4 := Lib.hid (bt (ba w3 (.cells #[.int .i32 32] 21)) hb4)
           have HB3 := Lib.hid (bt (bt (ba w (.cells #[.string nm, .slice A n c] 47)) hb2) hb3)
           have HRP := Lib.hid hrp
           clear ho4 hrp hb4 hrv hrv2)
        | (at_builtin
           refine append_runes _ rfl (.tmp 24) (.tmp 27) rfl w3.heap.size _ _ _ rfl HOL.out _ _ n4 cp _ rfl HRP.out (by omega) HB4.out.size ?_
           intro A5 c5 w5 hown5 hg5 _ _
           have HB5 := Lib.hid (below_own HB4.out HB4.out.size HOL.out hg5)
           have HO5 := Lib.hid hown5
           have HRV5 := Lib.hid (((HRV.out.apart HOL.out HLE.out hg5).alloc (.cells #[.int .i32 61] 21)))
           clear hown5 hg5)
        | (at_builtin
           refine append_runes _ rfl (.tmp 29) (.tmp 30) rfl w3.heap.size _ _ _ rfl (HO5.out.alloc _) _ _ 1 1 [_] rfl (Rd.litN _ w5.heap.size rfl _ #[.int .i32 _] 1 1 rfl (by decide)) (by omega) (by have := HB5.out.size; simp; omega) ?_
           intro A6 c6 w6 hown6 hg6 _ _
           have HB6 := Lib.hid (below_own (HB5.out.alloc HB5.out.size _) (by have := HB5.out.size; simp; omega) (HO5.out.alloc _) hg6)
           have HO6 := Lib.hid hown6
           have HRV6 := Lib.hid (HRV5.out.apart (HO5.out.alloc _) HLE.out hg6)
           clear hown6 hg6)
        | (at_builtin
           refine append_runes _ rfl (.tmp 32) (.tmp 33) rfl w3.heap.size _ _ _ rfl HO6.out _ _ _ _ _ rfl HRV6.out (by first | omega | (simp; omega)) HB6.out.size ?_
           intro A7 c7 w7 hown7 hg7 _ _
           have HB7 := Lib.hid (below_own HB6.out HB6.out.size HO6.out hg7)
           have HO7 := Lib.hid hown7
           clear hown7 hg7))
      go_ret2
      rw [HT.out]
      exact ⟨⟨_, rfl, .of_own (own_eq HO7.out (by simp))⟩, bt HB3.out HB7.out⟩

def endF (nm : List UInt8) : Option (List Int) := if nameF nm then some ([60, 47] ++ runesF nm ++ [62]) else none

set_option maxHeartbeats 1000000 in
set_option maxRecDepth 100000 in
theorem End_any (nm : ByteArray) (w : World) (hnm : nm.size ≤ 10000000) :
    Calls Try.prog 38 #[.string nm] w fun e w' => OptV w' (endF nm.data.toList) e ∧ Below w.heap.size w w' := by
  have HN := fun W => Lib.hid (NName_any nm W (by omega))
  have HRU := fun W => Lib.hid (ERunes_any nm W (by omega))
  have HR2 := fun W => Lib.hid (ERunes_any ⟨#[60, 47]⟩ W (by decide))
  have hr2 : runesF (⟨#[60, 47]⟩ : ByteArray).data.toList = [60, 47] := by decide
  rw [hr2] at HR2
  have HT : Hid (endF nm.data.toList = if nameF nm.data.toList then some ([60, 47] ++ runesF nm.data.toList ++ [62]) else none) := rfl
  have HRL : Hid ((runesF nm.data.toList).length ≤ 10000000) := Nat.le_trans (runesF_len _) (by simpa using hnm)
  generalize endF nm.data.toList = t at HT ⊢
  generalize runesF nm.data.toList = rn at HT HRU HRL
  generalize nameF nm.data.toList = nb at HN HT
  cases nb with
  | false =>
    go_enter Try.func38, Try.ntmps38
    go_wp2_with (go_at_call 57; refine (HN _).out.mono ?_; rintro e w3 ⟨rfl, hb3⟩)
    go_ret2
    rw [HT.out]
    exact ⟨⟨_, rfl, .nil_ _⟩, hb3⟩
  | true =>
    go_enter Try.func38, Try.ntmps38
    go_wp2_with (go_at_call 57; refine (HN _).out.mono ?_; rintro e w3 ⟨rfl, hb3⟩)
    refine (HR2 _).out.mono ?_
    rintro e w4 ⟨v4, rfl, ⟨n4, ho4⟩, hb4⟩
    obtain ⟨A4, c4, rfl, hr4⟩ := own_form ho4
    go_wp2_with fail
    refine (HRU _).out.mono ?_
    rintro e w5 ⟨v5, rfl, ⟨n5, ho5⟩, hb5⟩
    obtain ⟨A5, c5, rfl, hr5⟩ := own_form ho5
    go_wp2_with fail
    refine (Joined_any (some ⟨w5.heap.size + 1, 0, none⟩) 3 3 [[60, 47], rn, [62]] _ _ (RowsV.lit _ _ (by simp) _ _ _ 3 rfl rfl (by decide)
       (RowsEach3 (((RunesV.of_own ho4).below hb5).alloc _) ((RunesV.of_own ho5).alloc _) (RunesV.lit w5 _ rfl _ [62] 1 rfl (by decide) _ rfl)) _ rfl)
       (by rw [sum3]; have := HRL.out; simp; omega)).mono ?_
    rintro e w6 ⟨v6, rfl, ⟨n6, ho6⟩, hb6⟩
    go_wp2
    go_ret2
    rw [HT.out]
    exact ⟨⟨_, rfl, .of_own (own_eq ho6 (by simp))⟩, bt (bt (bt hb3 hb4) hb5) (bt (bt (ba _ _) (ba _ _)) hb6)⟩

end Go.Proofs.Ytbbplpmaknaadaa
