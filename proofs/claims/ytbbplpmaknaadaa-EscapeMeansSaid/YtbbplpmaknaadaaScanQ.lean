/-
  Layer 1 (scan): the document's First, the plain law: 1 to 4 bytes tried; then its walk. Rows of at most 1000000000 bytes.
-/
import Derived.Test.YtbbplpmaknaadaaScanR
import Derived.Test.YtbbplpmaknaadaaMix
import Derived.Deep.RegionHeld3
namespace Go.Proofs.Ytbbplpmaknaadaa
open Go.RowKit Go.Lib

def leadN : Nat → Int
  | 2 => 192
  | 3 => 224
  | 4 => 240
  | _ => 0
def byteAt (l : List UInt8) (i : Nat) : Int := (l.getD i 0).toNat
def vp (l : List UInt8) (n : Nat) : Nat → Int
  | 0 => byteAt l 0 - leadN n
  | j + 1 => 64 * vp l n j + byteAt l (j + 1) - 128
def hit (l : List UInt8) (n : Nat) : Prop := 0 ≤ vp l n (n - 1) ∧ vp l n (n - 1) ≤ 1114111 ∧ runeF (vp l n (n - 1)) = l.take n

theorem byteAt_range (l : List UInt8) (i : Nat) : 0 ≤ byteAt l i ∧ byteAt l i < 256 := by
  unfold byteAt; have := (l.getD i 0).toNat_lt; omega
theorem vp_range (l : List UInt8) (n j : Nat) (hj : j ≤ 3) : -1000000000 ≤ vp l n j ∧ vp l n j ≤ 1000000000 := by
  have h0 := byteAt_range l 0
  have h1 := byteAt_range l 1
  have h2 := byteAt_range l 2
  have h3 := byteAt_range l 3
  have hl : 0 ≤ leadN n ∧ leadN n ≤ 240 := by unfold leadN; split <;> omega
  match j, hj with
  | 0, _ => simp only [vp]; omega
  | 1, _ => simp only [vp, Nat.zero_add]; omega
  | 2, _ => simp only [vp, Nat.zero_add, Nat.reduceAdd]; omega
  | 3, _ => simp only [vp, Nat.zero_add, Nat.reduceAdd]; omega

theorem hit_first (l : List UInt8) (n : Nat) (h1 : 1 ≤ n) (hn : n ≤ l.length) (h : hit l n) : firstF l = (vp l n (n - 1), n) := by
  obtain ⟨_, _, h⟩ := h
  generalize vp l n (n - 1) = v at h ⊢
  have hlen := congrArg List.length h
  rw [List.length_take, Nat.min_eq_left hn] at hlen
  have hw : 0 < widthF v := by
    rcases Nat.eq_zero_or_pos (widthF v) with h0 | h0
    · rw [runeF, if_pos h0] at hlen
      simp at hlen
      omega
    · exact h0
  rw [runeF, if_neg (by omega)] at h hlen
  rw [enc_width v hw] at hlen
  have : l = encodeRune v ++ l.drop n := by rw [h, List.take_append_drop]
  rw [this, firstF_enc v hw, hlen]

theorem getD_take (l : List UInt8) (n i : Nat) (h : i < n) : l.getD i 0 = (l.take n).getD i 0 := by simp [List.getD, h]

theorem first_miss (l : List UInt8) (hne : l ≠ []) (h : ∀ n, 1 ≤ n → n ≤ 4 → n ≤ l.length → ¬ hit l n) : firstF l = (-1, 1) := by
  by_cases hb : (firstF l).1 = -1
  · have hd := hb
    unfold firstF at hd ⊢
    split at hd
    · rename_i h1; rw [if_pos h1]
    · exfalso; simp only at hd; omega
  · exfalso
    have hg := firstF_good l hne hb
    have hle := firstF_le l hne
    have hpos := firstF_pos l
    have hr := firstF_range l
    have hd : (firstF l).1 = ((decodeL l).1 : Int) := by
      unfold firstF at hb ⊢
      split
      · rename_i h1; rw [if_pos h1] at hb; exact absurd rfl hb
      · rfl
    generalize hv : (firstF l).1 = v at hb hg hr hd
    generalize (firstF l).2 = n at hg hle hpos
    have hlen := congrArg List.length hg
    rw [List.length_take, Nat.min_eq_left hle] at hlen
    have hsur : ¬ (55296 ≤ v ∧ v ≤ 57343) := by
      intro hs
      have h1 : v = ((decodeL l).1 : Int) := hd
      have h2 := decodeL_N l
      rcases decodeN_shape l.length (l.getD 0 0).toNat (l.getD 1 0).toNat (l.getD 2 0).toNat (l.getD 3 0).toNat with ⟨c, e⟩ | ⟨c1, c2, c3, cv, e⟩ | ⟨c1, c2, c3, c4, cv, cs, e⟩ | ⟨c1, c2, c3, c4, c5, cv, cw, e⟩ | e
      all_goals (rw [e] at h2; rw [h2] at h1; dsimp only at h1; omega)
    have hw : 0 < widthF v := by unfold widthF; rw [if_neg (by omega)]; repeat' split
                                 all_goals omega
    have hrf : runeF v = encodeRune v := by rw [runeF, if_neg (by omega)]
    have hn4 : n = widthF v := by rw [hlen, enc_width v hw]
    have hb0 := getD_take l n 0 (by omega)
    have hvp : vp l n (n - 1) = v := by
      have key : ∀ i, i < n → byteAt l i = (encodeRuneZ v).getD i 0 := by
        intro i hi
        unfold byteAt
        rw [getD_take l n i hi, hg, encodeRune]
        have hil : i < (encodeRuneZ v).length := by
          have := enc_width v hw
          rw [encodeRune, List.length_map] at this
          omega
        have hz := encodeRuneZ_byte v (encodeRuneZ v)[i] (List.getElem_mem hil)
        simp only [List.getD, List.getElem?_map, List.getElem?_eq_getElem hil, Option.map_some, Option.getD_some]
        rw [getD_enc _ (by omega), Int.toNat_of_nonneg hz.1]
      rw [hn4] at key ⊢
      unfold widthF at hw key ⊢
      rw [if_neg (by omega)] at key ⊢
      by_cases h1 : v < 128
      · rw [if_pos h1] at key ⊢
        have k0 := key 0 (by omega)
        rw [encodeRuneZ_one (by omega) (by omega)] at k0
        show vp l 1 0 = v
        simp only [vp, leadN, k0]
        simp
      · rw [if_neg h1] at key ⊢
        by_cases h2 : v < 2048
        · rw [if_pos h2] at key ⊢
          have k0 := key 0 (by omega)
          have k1 := key 1 (by omega)
          rw [encodeRuneZ_two (by omega) (by omega)] at k0 k1
          show vp l 2 1 = v
          simp only [vp, leadN, Nat.zero_add, k0, k1, List.getD_cons_zero, List.getD_cons_succ]
          omega
        · rw [if_neg h2] at key ⊢
          by_cases h3 : v < 65536
          · rw [if_pos h3] at key ⊢
            have k0 := key 0 (by omega)
            have k1 := key 1 (by omega)
            have k2 := key 2 (by omega)
            rw [encodeRuneZ_three (by omega)] at k0 k1 k2
            show vp l 3 2 = v
            simp only [vp, leadN, Nat.zero_add, Nat.reduceAdd, k0, k1, k2, List.getD_cons_zero, List.getD_cons_succ]
            omega
          · rw [if_neg h3] at key ⊢
            have k0 := key 0 (by omega)
            have k1 := key 1 (by omega)
            have k2 := key 2 (by omega)
            have k3 := key 3 (by omega)
            rw [encodeRuneZ_four (by omega) (by omega)] at k0 k1 k2 k3
            show vp l 4 3 = v
            simp only [vp, leadN, Nat.zero_add, Nat.reduceAdd, k0, k1, k2, k3, List.getD_cons_zero, List.getD_cons_succ]
            omega
    refine h n hpos ?_ hle ⟨by rw [hvp]; omega, by rw [hvp]; omega, by rw [hvp, hrf, hg]⟩
    rw [hn4]; unfold widthF; repeat' split
    all_goals omega

set_option maxHeartbeats 2000000 in
set_option maxRecDepth 100000 in
theorem First_any (S : Nat → Prop) (A : Option Addr) (n c : Nat) (l : List UInt8) (w : World) (hr : Rd w S 1 A n c (bc l)) (hlen : l.length ≤ 1000000000) :
    Calls Try.prog 107 #[.slice A n c] w fun e w' =>
      e = .returned (.tuple #[.int .i32 (if l = [] then 0 else (firstF l).1), .int .i64 (if l = [] then (0 : Nat) else (firstF l).2 : Nat)]) ∧ Below w.heap.size w w' := by
  obtain rfl := bc_len hr
  have hle := hr.le
  have hmx : c ≤ 9223372036854775807 := hr.max
  cases hl : l with
  | nil =>
    subst hl
    go_enter Try.func107, Try.ntmps107
    go_wp2
    go_ret2
    exact ⟨rfl, Below.refl _ _⟩
  | cons b0 t0 =>
    rw [← hl, if_neg (by rw [hl]; simp), if_neg (by rw [hl]; simp)]
    have hpos : 0 < l.length := by rw [hl]; simp
    have hd0 : ((l.length : Int) == 0) = false := by rw [beq_eq_false_iff_ne]; omega
    have hd1 : (l.length == 0) = false := by rw [beq_eq_false_iff_ne]; omega
    clear hl b0 t0
    have HR := Lib.hid hr
    clear hr
    go_enter Try.func107, Try.ntmps107
    go_wp2
    have HC : Hid (∀ j, j ≤ 4 → (w.alloc (.cells #[.int .i64 0, .int .i64 0, .int .i64 192, .int .i64 224, .int .i64 240] 3)).cell? ⟨w.heap.size, j, none⟩ = some (.int .i64 (leadN j))) := by
      intro j hj
      rw [World.cell?_alloc_at _ _ _ _ rfl]
      match j, hj with
      | 0, _ => rfl
      | 1, _ => rfl
      | 2, _ => rfl
      | 3, _ => rfl
      | 4, _ => rfl
    have HR0 := Lib.hid (HR.out.alloc (.cells #[.int .i64 0, .int .i64 0, .int .i64 192, .int .i64 224, .int .i64 240] 3))
    have HB0 : Hid (Below w.heap.size w (w.alloc (.cells #[.int .i64 0, .int .i64 0, .int .i64 192, .int .i64 224, .int .i64 240] 3))) := (Below.refl _ _).alloc (Nat.le_refl _) _
    have hsz : (w.alloc (.cells #[.int .i64 0, .int .i64 0, .int .i64 192, .int .i64 224, .int .i64 240] 3)).heap.size = w.heap.size + 1 := by simp
    generalize w.alloc (.cells #[.int .i64 0, .int .i64 0, .int .i64 192, .int .i64 224, .int .i64 240] 3) = W0 at HC HR0 HB0 hsz
    have HSZ := Lib.hid hsz
    clear hsz
    go_loopw [5] (fun i wr => ∃ k : Nat, 1 ≤ k ∧ k ≤ 5 ∧ k ≤ l.length + 1 ∧ i = .int .i64 k ∧ Hid (∀ m, 1 ≤ m → m < k → ¬ hit l m) ∧ Hid (Below W0.heap.size W0 wr)) (fun i _ => 5 - (intOf i).toNat)
    case atStart => exact ⟨1, by omega, by omega, by omega, rfl, fun m h1 h2 => absurd h1 (by omega), Below.refl _ _⟩
    case round =>
      obtain ⟨k, hk1, hk5, hkl, rfl, HN, HB⟩ := hrel
      by_cases hin : k ≤ 4 ∧ k ≤ l.length
      · obtain ⟨h4, hkl2⟩ := hin
        obtain ⟨b, o, u, rfl, _, hu, hc0⟩ := (HR0.out.below HB.out).one hpos
        obtain ⟨hp0, rfl⟩ := bc_get hu
        clear hu
        have hc0' : wr.cell? ⟨b, o, none⟩ = some (.int .u8 (byteAt l 0)) := by
          rw [Nat.add_zero] at hc0; rw [hc0]; simp [byteAt, List.getD, hp0]
        clear hc0
        have hlead : wr.cell? ⟨w.heap.size, k, none⟩ = some (.int .i64 (leadN k)) := (HB.out.cell (p := ⟨w.heap.size, k, none⟩) (by show w.heap.size < W0.heap.size; have := HSZ.out; omega)).trans (HC.out k h4)
        have hb0 := byteAt_range l 0
        have hll : 0 ≤ leadN k ∧ leadN k ≤ 240 := by unfold leadN; split <;> omega
        have HV0 : Hid (vp l k 0 = byteAt l 0 - leadN k) := rfl
        go_wp2
        go_quiet (fail)
        go_wp2
        have HB1 := Lib.hid (below_drewN HB.out nq)
        generalize wr.drewN nq = w1 at HB1
        clear hc0' hlead
        go_loop [6, 7] (fun v i => ∃ j : Nat, j + 1 ≤ k ∧ i = .int .i64 ((j : Int) + 1) ∧ v = .int .i64 (vp l k j)) (fun _ i => k - (intOf i).toNat)
        case atStart => exact ⟨0, hk1, rfl, by rw [HV0.out]⟩
        case round =>
          obtain ⟨j, hj, rfl, rfl⟩ := hrel
          have hvr := vp_range l k j (by omega)
          by_cases hjk : j + 1 < k
          · obtain ⟨b2, o2, u, hA, _, hu, hc1⟩ := (HR0.out.below HB1.out).one (k := j + 1) (by omega)
            injection hA with hA
            injection hA with e1 e2
            subst e1 e2
            obtain ⟨hp1, rfl⟩ := bc_get hu
            clear hu
            have hc1' : w1.cell? ⟨b, o + (j + 1), none⟩ = some (.int .u8 (byteAt l (j + 1))) := by
              rw [hc1]; simp [byteAt, List.getD, hp1]
            have hb1 := byteAt_range l (j + 1)
            have hjk' : (j : Int) + 1 < (k : Int) := by omega
            have hjl : (j : Int) + 1 < (l.length : Int) := by omega
            have HV1 : Hid (vp l k (j + 1) = 64 * vp l k j + byteAt l (j + 1) - 128) := rfl
            clear hc1
            generalize vp l k j = v at hvr HV1 ⊢
            generalize byteAt l (j + 1) = b1 at hc1' hb1 HV1
            go_wp2
            go_round
            case rel => exact ⟨j + 1, by omega, by go_num, by rw [HV1.out]⟩
            case measure => simp [intOf]; omega
          · have hjk' : ¬ (j : Int) + 1 < (k : Int) := by omega
            have ej : j = k - 1 := by omega
            subst ej
            generalize hv : vp l k (k - 1) = v at hvr ⊢
            have HV := Lib.hid hv
            clear hv
            by_cases hv0 : 0 ≤ v ∧ v ≤ 1114111
            · obtain ⟨hv1, hv2⟩ := hv0
              have hv3 : decide (0 ≤ v) = true := by simpa using hv1
              have hv4 : decide (v ≤ 1114111) = true := by simpa using hv2
              have HT := Lib.hid ((HR0.out.below HB1.out).take (k := k) (by omega))
              have htk : (bc l).take (k * 1) = bc (l.take k) := by rw [Nat.mul_one, bc, bc, List.map_take]
              rw [htk] at HT
              clear htk
              have hcb : ∀ W, Below w1.heap.size w1 W → (convert 88 9 (.slice (some ⟨b, o, none⟩) k c)).run Try.prog W = .ok (.string ⟨(l.take k).toArray⟩) W := fun W hW =>
                run_bytes_string (HT.out.below hW) 88 9 5 Try.underlying88 Try.underlying5 Try.underlying9
              have hcb1 := hcb w1.drew ((Below.refl _ w1).drew)
              have HCB := Lib.hid hcb
              generalize htl : l.take k = tl at hcb1 HCB
              have HTL := Lib.hid htl
              clear htl hcb
              go_wp2
              refine wp_region_mixB [(0, true), (1, true), (2, true), (3, true), (4, true), (5, true), (6, true), (7, true), (8, true), (11, true), (12, true), (13, true), (14, true), (9, false), (10, true), (15, true), (16, true)] (by kernel_rfl) (by kernel_rfl) (fun _ _ _ _ _ h => h) ?_
              intro wd HLE
              have hcbd : ∀ W, LeB wd W → (convert 88 9 (.slice (some ⟨b, o, none⟩) k c)).run Try.prog W = .ok (.string ⟨tl.toArray⟩) W := fun W hW => HCB.out W (LeB.trans _ _ _ HLE.out hW)
              have hkc : k ≤ c := by omega
              repeat (refine wpMix_still rfl (fun K hK => ?_); go_simp; first | (refine hK.out _ ?_; clear hK K) | (apply Exists.intro; refine ⟨fun W hW => ?_, hK.out _ ?_⟩; (first | rfl | (rw [hcbd W hW]; rfl)); clear hK K))
              have hwr : IntKind.i32.wrap v = v := IntWalk.i32_in v (by omega)
              refine wpMix_loud rfl (fun K W HLW hK => ?_) LeB.refl
              go_simp
              refine (Rune_any v _ (by omega) (by omega)).mono ?_
              rintro e w2 ⟨v2, rfl, ⟨A2, n2, c2, rfl, hr2⟩, hb2⟩
              go_simp
              refine hK.out _ _ hb2 ?_
              clear hK K
              have hcr : ∀ W, LeB w2 W → (convert 88 9 (.slice A2 n2 c2)).run Try.prog W = _ := fun W hW =>
                run_bytes_string (hr2.below hW) 88 9 5 Try.underlying88 Try.underlying5 Try.underlying9
              repeat (refine wpMix_still rfl (fun K hK => ?_); go_simp; first | (refine hK.out _ ?_; clear hK K) | (apply Exists.intro; refine ⟨fun W hW => ?_, hK.out _ ?_⟩; (first | rfl | (rw [hcr W hW]; rfl)); clear hK K))
              refine wpMix_nil (fun W2 hW2 => ?_)
              have HBX := Lib.hid (Below.trans HB0.out ((HB1.out.trans (Below.mono HLE.out HB1.out.size) |>.trans (Below.mono HLW.out (Nat.le_trans HB1.out.size HLE.out.size)) |>.trans (Below.mono hb2 (Nat.le_trans HB1.out.size (Nat.le_trans HLE.out.size HLW.out.size))) |>.trans (Below.mono hW2 (Nat.le_trans HB1.out.size (Nat.le_trans HLE.out.size (Nat.le_trans HLW.out.size hb2.size))))).mono HB0.out.size))
              have HBY := Lib.hid (HB1.out.trans (Below.mono HLE.out HB1.out.size) |>.trans (Below.mono HLW.out (Nat.le_trans HB1.out.size HLE.out.size)) |>.trans (Below.mono hb2 (Nat.le_trans HB1.out.size (Nat.le_trans HLE.out.size HLW.out.size))) |>.trans (Below.mono hW2 (Nat.le_trans HB1.out.size (Nat.le_trans HLE.out.size (Nat.le_trans HLW.out.size hb2.size)))))
              clear hcr hb2 hW2 HLW HLE hr2
              go_wp2
              · rename_i heqb
                have heq : runeF v = tl := by simpa using heqb
                have hh : hit l k := ⟨by rw [HV.out]; exact hv1, by rw [HV.out]; exact hv2, by rw [HV.out, heq, HTL.out]⟩
                have hf := hit_first l k hk1 hkl2 hh
                rw [HV.out] at hf
                go_ret2
                exact ⟨by first | rfl | (rw [hf]; rfl), HBX.out⟩
              · rename_i heqb
                have heq : ¬ runeF v = tl := by simpa using heqb
                refine ⟨⟨k + 1, by omega, by omega, by omega, by go_num, ?_, HBY.out⟩, by simp [intOf]; omega⟩
                intro m h1 h2 hm
                by_cases hmk : m = k
                · subst hmk
                  obtain ⟨_, _, h3⟩ := hm
                  rw [HV.out, HTL.out] at h3
                  exact heq h3
                · exact HN.out m h1 (by omega) hm
            · have hnh : ¬ hit l k := fun hm => hv0 ⟨by rw [← HV.out]; exact hm.1, by rw [← HV.out]; exact hm.2.1⟩
              have fin : ∀ (n : Nat), Hid (Below W0.heap.size W0 (w1.drewN n)) := fun n => below_drewN HB1.out n
              by_cases hv1 : 0 ≤ v
              · have hv2 : ¬ v ≤ 1114111 := fun h => hv0 ⟨hv1, h⟩
                have hv3 : decide (0 ≤ v) = true := by simpa using hv1
                have hv4 : decide (v ≤ 1114111) = false := by simpa using hv2
                go_wp2
                go_quiet (fail)
                go_wp2
                have HBY := fin nq
                generalize w1.drewN nq = W2 at HBY
                go_round
                case rel =>
                  refine ⟨k + 1, by omega, by omega, by omega, by go_num, ?_, HBY.out⟩
                  intro m h1 h2 hm
                  by_cases hmk : m = k
                  · subst hmk; exact hnh hm
                  · exact HN.out m h1 (by omega) hm
                case measure => simp [intOf]; omega
              · have hv3 : decide (0 ≤ v) = false := by simpa using hv1
                go_wp2
                go_quiet (fail)
                go_wp2
                have HBY := fin nq
                generalize w1.drewN nq = W2 at HBY
                go_round
                case rel =>
                  refine ⟨k + 1, by omega, by omega, by omega, by go_num, ?_, HBY.out⟩
                  intro m h1 h2 hm
                  by_cases hmk : m = k
                  · subst hmk; exact hnh hm
                  · exact HN.out m h1 (by omega) hm
                case measure => simp [intOf]; omega
      · have hmiss : firstF l = (-1, 1) := first_miss l (by intro h; rw [h] at hpos; exact absurd hpos (by simp)) fun n h1 h4 hl hh => HN.out n h1 (by omega) hh
        have HBX := Lib.hid (HB0.out.trans (HB.out.mono HB0.out.size))
        by_cases h4 : k ≤ 4
        · have h5 : ¬ k ≤ l.length := fun h => hin ⟨h4, h⟩
          go_wp2
          go_ret2
          exact ⟨by first | rfl | (rw [hmiss]; rfl), HBX.out⟩
        · go_wp2
          go_ret2
          exact ⟨by first | rfl | (rw [hmiss]; rfl), HBX.out⟩

end Go.Proofs.Ytbbplpmaknaadaa
