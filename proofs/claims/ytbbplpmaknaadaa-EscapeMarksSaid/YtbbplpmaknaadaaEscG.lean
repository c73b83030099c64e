/-
  Layer 23 (escape): Comment: the program's and the document's. Rows of at most 1000 runes.
-/
import Derived.Test.YtbbplpmaknaadaaLexJ
import Derived.Test.YtbbplpmaknaadaaEscE
namespace Go.Proofs.Ytbbplpmaknaadaa
open Go.RowKit Go.Lib

theorem firstF_i32 (l : List UInt8) : -1 ≤ (firstF l).1 ∧ (firstF l).1 ≤ 1114111 := by
  have h : (decodeL l).1 ≤ 1114111 := by
    rw [decodeL_N]
    have h0 := (l.getD 0 0).toNat_lt
    unfold decodeN
    repeat' split
    all_goals (simp only; omega)
  unfold firstF
  split
  · exact ⟨by simp, by simp⟩
  · exact ⟨by simp only; omega, by simp only; omega⟩
theorem itemsGo_i32 : ∀ (k off : Nat) (l : List UInt8), ∀ x ∈ itemsGo k off l, -1 ≤ x.1 ∧ x.1 ≤ 1114111
  | 0, _, _, _, h => by simp [itemsGo] at h
  | _ + 1, _, [], _, h => by simp [itemsGo] at h
  | k + 1, off, b :: t, x, h => by
    rw [itemsGo, List.mem_cons] at h
    rcases h with rfl | h
    · exact firstF_i32 _
    · exact itemsGo_i32 _ _ _ _ h
theorem runesF_i32 (bs : List UInt8) : I32 (runesF bs) := by
  intro x hx
  rw [runesF, List.mem_map] at hx
  obtain ⟨y, hy, rfl⟩ := hx
  have := itemsGo_i32 _ _ _ y hy
  omega
theorem I32.append {a b : List Int} (h : I32 a) (k : I32 b) : I32 (a ++ b) := fun x hx => by
  rcases List.mem_append.1 hx with h2 | h2
  · exact h x h2
  · exact k x h2

def cmtO (l : List Int) : List Int := [60, 33, 45, 45] ++ l ++ [45, 45, 62]
def cmtF (l : List Int) : Option (List Int) := if commentF (cmtO l) 0 (cmtO l).length then some (cmtO l) else none
/-- an answer, and runes that are the answer's if there is one -/
def OptW (w : World) (r : Option (List Int)) (e : Ending) : Prop := ∃ v k, e = .returned (.tuple #[v, .bool r.isSome]) ∧ RunesV w v k ∧ ∀ x, r = some x → k = x

theorem same23_optw (w : World) (v1 v2 : Value) (r : Option (List Int)) (k : List Int) (h1 : RunesV w v1 (r.getD [])) (h2 : RunesV w v2 k) (hk : ∀ x, r = some x → k = x) :
    Calls Try.prog 33 #[v1, .bool r.isSome, v2, .bool r.isSome] w fun e w' => e = .returned (.bool true) ∧ Below w.heap.size w w' := by
  cases r with
  | none =>
    obtain ⟨A, c, rfl, hr⟩ := h1.len
    obtain ⟨B, d, rfl, ht⟩ := h2.len
    refine (same23f_any A B _ c _ d false false rfl w).mono ?_
    rintro e w' ⟨rfl, hb⟩
    exact ⟨rfl, hb⟩
  | some l =>
    have := hk l rfl
    subst this
    exact same23_opt w v1 v2 (some k) h1 h2

set_option maxHeartbeats 1000000 in
set_option maxRecDepth 100000 in
theorem Comment_any (S : Nat → Prop) (A : Option Addr) (n c : Nat) (l : List Int) (w : World) (hr : Rd w S 1 A n c (rc l)) (hn9 : l.length ≤ 1000) :
    Calls Try.prog 40 #[.slice A n c] w fun e w' => OptV w' (cmtF l) e ∧ Below w.heap.size w w' := by
  have hn := hr.rlen
  have HR := Lib.hid hr
  have HA := fun W => Lib.hid (ERunes_any ⟨#[60, 33, 45, 45]⟩ W (by decide))
  have hra : runesF (⟨#[60, 33, 45, 45]⟩ : ByteArray).data.toList = [60, 33, 45, 45] := by decide +kernel
  rw [hra] at HA
  have HZ := fun W => Lib.hid (ERunes_any ⟨#[45, 45, 62]⟩ W (by decide))
  have hrz : runesF (⟨#[45, 45, 62]⟩ : ByteArray).data.toList = [45, 45, 62] := by decide +kernel
  rw [hrz] at HZ
  have hol : (cmtO l).length = l.length + 7 := by simp [cmtO]
  have HO : Hid ([[60, 33, 45, 45], l, [45, 45, 62]].flatten = cmtO l) := by simp [Hid, cmtO]
  have HC : ∀ W S' A' c', Rd W S' 1 A' (cmtO l).length c' (rc (cmtO l)) → Hid (Calls Try.prog 65 #[.slice A' (cmtO l).length c', .int .i64 0, .int .i64 (cmtO l).length] W fun e w' => e = .returned (.bool (commentF (cmtO l) 0 (cmtO l).length)) ∧ Below W.heap.size W w') :=
    fun W S' A' c' h => Comment16_any S' A' _ c' (cmtO l) 0 (cmtO l).length W h (Nat.zero_le _) (Nat.le_refl _) (by omega)
  have HT : Hid (cmtF l = if commentF (cmtO l) 0 (cmtO l).length then some (cmtO l) else none) := rfl
  generalize cmtF l = t at HT ⊢
  generalize commentF (cmtO l) 0 (cmtO l).length = cb at HC HT
  have HSUM : Hid (sumLen [[60, 33, 45, 45], l, [45, 45, 62]] ≤ 1000000000) := by rw [Hid, sum3]; simp; omega
  generalize cmtO l = o at HO HC HT hol
  have hob : o.length ≤ 1007 := by omega
  clear hol
  have hle := hr.le
  have hmx : c ≤ 9223372036854775807 := hr.max
  clear hr hra hrz
  subst hn
  go_enter Try.func40, Try.ntmps40
  go_wp2_with fail
  refine (HA _).out.mono ?_
  rintro e w1 ⟨v1, rfl, ⟨n1, ho1⟩, hb1⟩
  obtain ⟨A1, c1, rfl, hr1⟩ := own_form ho1
  go_wp2_with fail
  refine (HZ _).out.mono ?_
  rintro e w2 ⟨v2, rfl, ⟨n2, ho2⟩, hb2⟩
  obtain ⟨A2, c2, rfl, hr2⟩ := own_form ho2
  have HV1 := Lib.hid ((RunesV.of_own ho1).below hb2)
  have HV2 := Lib.hid (RunesV.of_own ho2)
  have HB2 := Lib.hid (bt hb1 hb2)
  have HRL := Lib.hid (RunesV.of_rd (HR.out.below HB2.out))
  clear ho1 ho2 hr1 hr2 hb1 hb2
  go_wp2_with fail
  refine (Joined_any (some ⟨w2.heap.size, 0, none⟩) 3 3 [[60, 33, 45, 45], l, [45, 45, 62]] _ _ (RowsV.lit _ _ rfl _ _ _ 3 rfl rfl (by decide) (RowsEach3 HV1.out HRL.out HV2.out) _ rfl) HSUM.out).mono ?_
  rintro e w3 ⟨v3, rfl, ⟨n3, ho3⟩, hb3⟩
  rw [HO.out] at ho3
  obtain ⟨A3, c3, rfl, hr3⟩ := own_form ho3
  obtain rfl := hr3.rlen
  have hle3 := hr3.le
  have hmx3 : c3 ≤ 9223372036854775807 := hr3.max
  have HV3 := Lib.hid (RunesV.of_own ho3)
  have HB3 := Lib.hid (bt HB2.out (bt (ba _ _) hb3))
  have HC3 := Lib.hid (HC _ _ _ _ hr3)
  clear hr3 ho3 hb3 HC HSUM
  go_wp2_with fail
  refine HC3.out.out.mono ?_
  rintro e w4 ⟨rfl, hb4⟩
  have HB4 := Lib.hid (bt HB3.out hb4)
  have HV4 := Lib.hid (HV3.out.below hb4)
  clear hb4
  cases cb with
  | false =>
    go_wp2
    go_ret2
    rw [HT.out]
    exact ⟨⟨_, rfl, .nil_ _⟩, HB4.out⟩
  | true =>
    go_wp2
    go_ret2
    rw [HT.out]
    exact ⟨⟨_, rfl, HV4.out⟩, HB4.out⟩

set_option maxHeartbeats 1000000 in
set_option maxRecDepth 100000 in
theorem RComment_any (S : Nat → Prop) (A : Option Addr) (n c : Nat) (l : List Int) (w : World) (hr : Rd w S 1 A n c (rc l)) (hn9 : l.length ≤ 1000) (hi : I32 l) :
    Calls Try.prog 41 #[.slice A n c] w fun e w' => OptW w' (cmtF l) e ∧ Below w.heap.size w w' := by
  obtain rfl := hr.rlen
  have hle := hr.le
  have hmx : c ≤ 9223372036854775807 := hr.max
  have HR := Lib.hid hr
  clear hr
  have hio : I32 (cmtO l) := ((show I32 [60, 33, 45, 45] by unfold I32; decide).append hi).append (by unfold I32; decide)
  have hol : (cmtO l).length = l.length + 7 := by simp [cmtO]
  have HO : Hid ([60, 33, 45, 45] ++ l ++ [45, 45, 62] = cmtO l) := rfl
  have HC : ∀ W S' A' c', Rd W S' 1 A' (cmtO l).length c' (rc (cmtO l)) → Hid (Calls Try.prog 66 #[.slice A' (cmtO l).length c', .int .i64 0, .int .i64 (cmtO l).length] W fun e w' => e = .returned (.bool (commentF (cmtO l) 0 (cmtO l).length)) ∧ Below W.heap.size W w') :=
    fun W S' A' c' h => RComment16_any S' A' _ c' (cmtO l) 0 (cmtO l).length W h (Nat.zero_le _) (Nat.le_refl _) (by omega) hio
  have HT : Hid (cmtF l = if commentF (cmtO l) 0 (cmtO l).length then some (cmtO l) else none) := rfl
  clear hio hi
  generalize cmtF l = t at HT ⊢
  generalize commentF (cmtO l) 0 (cmtO l).length = cb at HC HT
  generalize cmtO l = o at HO HC HT hol
  have HLL := Lib.hid (show 4 + l.length + 3 = o.length by omega)
  have hob : o.length ≤ 1007 := by omega
  clear hol
  have HOL := Lib.hid (own_litN w _ rfl 21 #[.int .i32 60, .int .i32 33, .int .i32 45, .int .i32 45] 1 4 rfl (by decide) (rc [60, 33, 45, 45]) rfl)
  have HR1 := Lib.hid (HR.out.alloc (.cells #[.int .i32 60, .int .i32 33, .int .i32 45, .int .i32 45] 21))
  have HB1 := Lib.hid (ba w (.cells #[.int .i32 60, .int .i32 33, .int .i32 45, .int .i32 45] 21))
  go_enter Try.func41, Try.ntmps41
  go_wp2_with (first
    | (at_builtin
       refine append_runes _ rfl (.tmp 5) (.tmp 6) rfl w.heap.size _ 4 [60, 33, 45, 45] rfl HOL.out _ A l.length c l rfl HR1.out (by omega) HB1.out.size ?_
       intro A4 c4 w4 hown4 hg4 _ _
       have HB4 := Lib.hid (below_own HB1.out HB1.out.size HOL.out hg4)
       have HO4 := Lib.hid hown4
       clear hown4 hg4)
    | (at_builtin
       refine append_runes _ rfl (.tmp 8) (.tmp 9) rfl w.heap.size _ (4 + l.length) ([60, 33, 45, 45] ++ l) rfl (HO4.out.alloc _) _ _ 3 3 [45, 45, 62] rfl (Rd.litN _ w4.heap.size rfl _ #[.int .i32 45, .int .i32 45, .int .i32 62] 1 3 rfl (by decide)) (by omega) (by have := HB4.out.size; simp; omega) ?_
       intro A5 c5 w5 hown5 hg5 _ _
       have HB5 := Lib.hid (below_own (HB4.out.alloc HB4.out.size _) (by have := HB4.out.size; simp; omega) (HO4.out.alloc _) hg5)
       rw [HO.out, HLL.out] at hown5
       rw [HLL.out]
       have HO5 := Lib.hid hown5
       clear hown5 hg5))
  have hr5 := Rd.of_own HO5.out
  have HC5 := HC _ _ _ _ hr5
  have HV5 := Lib.hid (RunesV.of_rd hr5)
  clear hr5 HC
  refine HC5.out.mono ?_
  rintro e w6 ⟨rfl, hb6⟩
  have HB6 := Lib.hid (HB5.out.trans (hb6.mono HB5.out.size))
  have HV6 := Lib.hid (HV5.out.below hb6)
  clear hb6
  go_wp2
  go_ret2
  refine ⟨⟨_, o, ?_, HV6.out, fun x hx => ?_⟩, HB6.out⟩
  · rw [HT.out]; cases cb <;> rfl
  · rw [HT.out] at hx
    cases cb with
    | true => injection hx
    | false => cases hx

end Go.Proofs.Ytbbplpmaknaadaa
