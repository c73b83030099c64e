/-
  Layer 14 (refs): Plainly. Rows of at most 10000 runes.
-/
import Derived.Test.YtbbplpmaknaadaaRfG
import Derived.Test.YtbbplpmaknaadaaRfF
import Derived.Test.YtbbplpmaknaadaaEscE
namespace Go.Proofs.Ytbbplpmaknaadaa
open Go.RowKit Go.Lib

theorem pieces_of (l : List Int) : ∀ (f k : Nat), ∀ p ∈ piecesGo l f k, ∃ j, j < l.length ∧ p = nextP l j
  | 0, _, _, h => by simp [piecesGo] at h
  | f + 1, k, p, h => by
    rw [piecesGo] at h
    split at h
    · rename_i hk
      rcases List.mem_cons.1 h with rfl | h
      · exact ⟨k, hk, rfl⟩
      · exact pieces_of l f _ p h
    · simp at h
theorem pieces_len (l : List Int) : ∀ (f k : Nat), (piecesGo l f k).length ≤ l.length - k
  | 0, _ => by simp [piecesGo]
  | f + 1, k => by
    rw [piecesGo]
    split
    · rename_i hk
      have := pieces_len l f (nextP l k).to
      have := nextP_pos l k hk
      have := nextP_le l k hk
      rw [List.length_cons]; omega
    · simp
theorem nextP_frm (l : List Int) (k : Nat) : (nextP l k).frm = k := by
  unfold nextP pieceF
  repeat' split
  all_goals rfl
theorem pcsCells_get (ps : List Pc) (k i : Nat) (h : k < ps.length) (hi : i < 5) : (pcsCells ps)[k * 5 + i]? = (pcCells ps[k])[i]? := by
  induction ps generalizing k with
  | nil => simp at h
  | cons a t ih =>
    cases k with
    | zero =>
      show (pcCells a ++ pcsCells t)[0 * 5 + i]? = _
      rw [List.getElem?_append_left (by simp [pcCells]; omega)]
      simp
    | succ k =>
      show (pcCells a ++ pcsCells t)[(k + 1) * 5 + i]? = _
      rw [List.getElem?_append_right (by simp [pcCells]; omega), show (k + 1) * 5 + i - (pcCells a).length = k * 5 + i by simp [pcCells]; omega]
      exact ih k (by simpa using h)
theorem Rd.pc {w : World} {S : Nat → Prop} {n c : Nat} {A : Option Addr} {ps : List Pc} (h : Rd w S 5 A n c (pcsCells ps)) {k : Nat} (hk : k < ps.length) :
    ∃ b u, A = some ⟨b, u, none⟩ ∧ w.cell? ⟨b, u + k * 5, none⟩ = some (.int .i64 ps[k].kind) ∧ w.cell? ⟨b, u + k * 5 + 1, none⟩ = some (.int .i64 ps[k].frm) ∧ w.cell? ⟨b, u + k * 5 + 2, none⟩ = some (.int .i64 ps[k].to) ∧
      w.cell? ⟨b, u + k * 5 + 3, none⟩ = some (.int .i32 ps[k].r) ∧ w.cell? ⟨b, u + k * 5 + 4, none⟩ = some (.string ⟨ps[k].name.toArray⟩) := by
  have hl := h.len
  rw [pcsCells_len] at hl
  obtain ⟨b, u, e, _, hc⟩ := h.at_ (by omega)
  refine ⟨b, u, e, hc _ _ (pcsCells_get ps k 0 hk (by omega)), hc _ _ (pcsCells_get ps k 1 hk (by omega)), hc _ _ (pcsCells_get ps k 2 hk (by omega)), hc _ _ (pcsCells_get ps k 3 hk (by omega)), hc _ _ (pcsCells_get ps k 4 hk (by omega))⟩

theorem plainGo_snoc (l : List Int) : ∀ (a : List Pc) (p : Pc) (x : List Int), plainGo l a = some x → plainGo l (a ++ [p]) = (valP l p).map (x ++ ·)
  | [], p, x, h => by
    injection h with h; subst h
    simp only [List.nil_append, plainGo]
    cases valP l p <;> simp
  | q :: a, p, x, h => by
    simp only [List.cons_append, plainGo] at h ⊢
    cases hq : valP l q with
    | none => rw [hq] at h; cases h
    | some y =>
      rw [hq] at h
      cases ha : plainGo l a with
      | none => rw [ha] at h; cases h
      | some z =>
        rw [ha] at h
        injection h with h
        simp only [plainGo_snoc l a p z ha, Option.map_map]
        subst h
        cases valP l p <;> simp
theorem plainGo_none (l : List Int) : ∀ (a b : List Pc), plainGo l a = none → plainGo l (a ++ b) = none
  | [], _, h => by cases h
  | q :: a, b, h => by
    simp only [List.cons_append, plainGo] at h ⊢
    cases hq : valP l q with
    | none => rfl
    | some y =>
      rw [hq] at h
      cases ha : plainGo l a with
      | none => simp only [plainGo_none l a b ha]; rfl
      | some z => rw [ha] at h; cases h
theorem plain_step (l : List Int) (ps : List Pc) (j : Nat) (acc xs : List Int) (h : j < ps.length) (hs : plainGo l (ps.take j) = some acc) (hv : valP l ps[j] = some xs) : plainGo l (ps.take (j + 1)) = some (acc ++ xs) := by
  rw [List.take_succ_eq_append_getElem h, plainGo_snoc l _ _ _ hs, hv]; rfl
theorem plain_stop (l : List Int) (ps : List Pc) (j : Nat) (acc : List Int) (h : j < ps.length) (hs : plainGo l (ps.take j) = some acc) (hv : valP l ps[j] = none) : plainGo l ps = none := by
  have e : ps = ps.take (j + 1) ++ ps.drop (j + 1) := (List.take_append_drop _ _).symm
  rw [e]
  refine plainGo_none l _ _ ?_
  rw [List.take_succ_eq_append_getElem h, plainGo_snoc l _ _ _ hs, hv]; rfl

set_option maxHeartbeats 4000000 in
set_option maxRecDepth 100000 in
theorem Plainly_any (S : Nat → Prop) (A : Option Addr) (n c : Nat) (l : List Int) (w : World) (hr : Rd w S 1 A n c (rc l)) (hl9 : l.length ≤ 10000) :
    Calls Try.prog 46 #[.slice A n c] w fun e w' => OptV w' (plainlyF l) e ∧ Below w.heap.size w w' := by
  obtain rfl := hr.rlen
  have hle := hr.le
  have hmx : c ≤ 9223372036854775807 := hr.max
  have HR := Lib.hid hr
  have HPS := Lib.hid (Pieces_any S A l.length c l w hr (by omega))
  have HT : Hid (plainlyF l = plainGo l (piecesF l)) := rfl
  have hpl : (piecesF l).length ≤ 10000 := by have := pieces_len l l.length 0; unfold piecesF; omega
  have HIN := Lib.hid (fun (j : Nat) (h : j < (piecesF l).length) => (by
    obtain ⟨i, hi, e⟩ := pieces_of l l.length 0 (piecesF l)[j] (List.getElem_mem h)
    have h1 := nextP_pos l i hi
    have h2 := nextP_le l i hi
    have h3 := nextP_frm l i
    rw [← e] at h1 h2 h3
    omega : (piecesF l)[j].frm ≤ (piecesF l)[j].to ∧ (piecesF l)[j].to ≤ l.length))
  clear hr
  generalize plainlyF l = t at HT ⊢
  generalize piecesF l = ps at HPS HT hpl HIN
  go_enter Try.func46, Try.ntmps46
  go_wp2_with fail
  refine HPS.out.mono ?_
  rintro e w1 ⟨v1, rfl, ⟨n1, ho1⟩, hb1⟩
  obtain rfl := pcs_own_len ho1
  obtain ⟨A1, c1, rfl, hr1⟩ := own_form ho1
  have hle1 := hr1.le
  have hmx1 : c1 ≤ 9223372036854775807 := hr1.max
  have HR1 := Lib.hid hr1
  have HB1 := Lib.hid hb1
  clear ho1 hr1 hb1 HPS
  go_wp2
  go_loopw [4, 12] (fun v i wr => ∃ (j : Nat) (acc : List Int), j ≤ ps.length ∧ i = .int .i64 j ∧ acc.length ≤ j * 10001 ∧ Hid (plainGo l (ps.take j) = some acc) ∧ Hid (∃ n', wr.ownsRow w1.heap.size 21 1 v n' (rc acc)) ∧ Hid (Below w1.heap.size w1 wr))
    (fun _ i _ => ps.length - (intOf i).toNat)
  case atStart => exact ⟨0, [], Nat.zero_le _, rfl, Nat.zero_le _, rfl, ⟨0, World.ownsRow_nil w1 w1.heap.size 21 1⟩, Below.refl _ _⟩
  case round =>
    obtain ⟨j, acc, hj, rfl, hal, HS, HO, HB⟩ := hrel
    obtain ⟨no, HO⟩ := HO.out
    obtain rfl := rc_own_len HO
    obtain ⟨Ao, co, rfl, hro⟩ := own_form HO
    have hco2 : co ≤ 9223372036854775807 := hro.max
    have HO := Lib.hid HO
    clear hro
    have HBW := Lib.hid (HB1.out.trans (HB.out.mono HB1.out.size))
    by_cases hlt : j < ps.length
    · obtain ⟨b, u, rfl, hc0, hc1, hc2, hc3, hc4⟩ := (HR1.out.below HB.out).pc hlt
      have HST := Lib.hid (fun xs => plain_step l ps j acc xs hlt HS.out)
      have HNO := Lib.hid (plain_stop l ps j acc hlt HS.out)
      obtain ⟨hft, htl⟩ := HIN.out j hlt
      generalize ps[j] = p at hc0 hc1 hc2 hc3 hc4 HST HNO hft htl
      obtain ⟨kd, fr, to, r, nm⟩ := p
      have hc0 : wr.cell? ⟨b, u + j * 5, none⟩ = some (.int .i64 kd) := hc0
      have hc1 : wr.cell? ⟨b, u + j * 5 + 1, none⟩ = some (.int .i64 fr) := hc1
      have hc2 : wr.cell? ⟨b, u + j * 5 + 2, none⟩ = some (.int .i64 to) := hc2
      have hc3 : wr.cell? ⟨b, u + j * 5 + 3, none⟩ = some (.int .i32 r) := hc3
      have hc4 : wr.cell? ⟨b, u + j * 5 + 4, none⟩ = some (.string ⟨nm.toArray⟩) := hc4
      have hft : fr ≤ to := hft
      have htl : to ≤ l.length := htl
      have HV : Hid (valP l ⟨kd, fr, to, r, nm⟩ = if kd = 1 then some ((l.drop fr).take (to - fr)) else if kd = 2 then some [r] else if kd = 3 then (knownF nm).map (fun r => [r]) else none) := rfl
      have HKN := fun W => Lib.hid (Known_any ⟨nm.toArray⟩ W)
      have HKN : ∀ W, Hid (Calls Try.prog 71 #[.string ⟨nm.toArray⟩] W fun e w' => e = .returned (.tuple #[.int .i32 ((knownF nm).getD 0), .bool (knownF nm).isSome]) ∧ W = w') := HKN
      generalize valP l ⟨kd, fr, to, r, nm⟩ = vp at HV HST HNO
      generalize knownF nm = kn at HV HKN
      have hsz : wr.heap.size < (wr.alloc (.cells #[.int .i64 kd, .int .i64 fr, .int .i64 to, .int .i32 r, .string ⟨nm.toArray⟩] 76)).heap.size := by simp
      have HBA := Lib.hid (ba wr (.cells #[.int .i64 kd, .int .i64 fr, .int .i64 to, .int .i32 r, .string ⟨nm.toArray⟩] 76))
      by_cases h1 : kd = 1
      · subst h1
        have HV1 : Hid (vp = some ((l.drop fr).take (to - fr))) := HV.out
        have HS2 := Lib.hid (HST.out _ HV1.out)
        obtain ⟨A3, hr3, hsl⟩ := HR.out.runesLH hft htl
        have hsl9 : ((l.drop fr).take (to - fr)).length ≤ 10000 := by simp; omega
        have HR3 := Lib.hid hr3
        generalize (l.drop fr).take (to - fr) = sg at HS2 HR3 hsl9
        generalize to - fr = nn at hsl HR3
        generalize c - fr = cc at hsl HR3
        clear HV HV1 HST HNO hr3
        go_wp2_with fail
        refine (HKN _).out.mono ?_
        rintro e wx ⟨rfl, rfl⟩
        go_wp2_with fail
        have HVA := Lib.hid ((RunesV.of_own HO.out).alloc (.cells #[.int .i64 ((1 : Nat) : Int), .int .i64 fr, .int .i64 to, .int .i32 r, .string ⟨nm.toArray⟩] 76))
        have HVS := Lib.hid (RunesV.of_rd (HR3.out.below (HBW.out.trans (HBA.out.mono HBW.out.size))))
        refine (Concat_any (some ⟨wr.heap.size + 1, 0, none⟩) 2 2 [acc, sg] _ _ (RowsV.lit (wr.alloc (.cells #[.int .i64 ((1 : Nat) : Int), .int .i64 fr, .int .i64 to, .int .i32 r, .string ⟨nm.toArray⟩] 76)) (wr.heap.size + 1) (by simp) _ _ _ 2 rfl rfl (by decide) (RowsEach2 HVA.out HVS.out) _ rfl) (by rw [sum2]; omega)).mono ?_
        rintro e w4 ⟨v4, rfl, ⟨n4, ho4⟩, hb4⟩
        have ho4 := own_eq ho4 (show [acc, sg].flatten = acc ++ sg by simp)
        obtain ⟨A4, c4, rfl, hr4⟩ := own_form ho4
        have HB4 := Lib.hid (bb HB.out (bt (bt HBA.out (ba _ _)) hb4) HB.out.size)
        have HO4 := Lib.hid (own_base (base' := w1.heap.size) ho4 (by have := HB.out.size; simp; omega))
        clear ho4 hr4 hb4
        go_wp2
        go_roundw
        case rel => exact ⟨j + 1, acc ++ sg, by omega, by go_num, by simp; omega, HS2, ⟨_, HO4.out⟩, HB4.out⟩
        case measure => simp [intOf]; omega
      · have h1b : ((kd : Int) == 1) = false := by rw [beq_eq_false_iff_ne]; omega
        by_cases h2 : kd = 2
        · subst h2
          have HV1 : Hid (vp = some [r]) := HV.out
          have HS2 := Lib.hid (HST.out _ HV1.out)
          clear HV HV1 HST HNO h1
          go_wp2_with fail
          refine (HKN _).out.mono ?_
          rintro e wx ⟨rfl, rfl⟩
          go_wp2_with (first
            | (at_builtin
               refine append_runes _ rfl (.tmp 39) (.tmp 42) rfl w1.heap.size _ acc.length acc rfl ((HO.out.alloc _).alloc _) _ _ 1 1 [r] rfl (Rd.litN (wr.alloc (.cells #[.int .i64 ((2 : Nat) : Int), .int .i64 fr, .int .i64 to, .int .i32 r, .string ⟨nm.toArray⟩] 76)) (wr.heap.size + 1) (by simp) _ #[.int .i32 r] 1 1 rfl (by decide)) (by omega) (by have := HB.out.size; simp; omega) ?_
               intro A4 c4 w4 hown4 hg4 _ _
               have HB4 := Lib.hid (below_own ((HB.out.alloc HB.out.size _).alloc (by have := HB.out.size; simp; omega) _) (by have := HB.out.size; simp; omega) ((HO.out.alloc _).alloc _) hg4)
               have HO4 := Lib.hid hown4
               clear hown4 hg4))
          go_roundw
          case rel => exact ⟨j + 1, acc ++ [r], by omega, by go_num, by simp; omega, HS2, ⟨_, HO4.out⟩, HB4.out⟩
          case measure => simp [intOf]; omega
        · have h2b : ((kd : Int) == 2) = false := by rw [beq_eq_false_iff_ne]; omega
          by_cases h3 : kd = 3
          · subst h3
            have HV1 : Hid (vp = kn.map (fun r => [r])) := HV.out
            cases kn with
            | some rk =>
              have HS2 := Lib.hid (HST.out [rk] HV1.out)
              clear HV HV1 HST HNO h1 h2
              go_wp2_with fail
              refine (HKN _).out.mono ?_
              rintro e wx ⟨rfl, rfl⟩
              go_wp2_with (first
                | (at_builtin
                   refine append_runes _ rfl (.tmp 51) (.tmp 53) rfl w1.heap.size _ acc.length acc rfl ((HO.out.alloc _).alloc _) _ _ 1 1 [rk] rfl (Rd.litN (wr.alloc (.cells #[.int .i64 ((3 : Nat) : Int), .int .i64 fr, .int .i64 to, .int .i32 r, .string ⟨nm.toArray⟩] 76)) (wr.heap.size + 1) (by simp) _ #[.int .i32 rk] 1 1 rfl (by decide)) (by omega) (by have := HB.out.size; simp; omega) ?_
                   intro A4 c4 w4 hown4 hg4 _ _
                   have HB4 := Lib.hid (below_own ((HB.out.alloc HB.out.size _).alloc (by have := HB.out.size; simp; omega) _) (by have := HB.out.size; simp; omega) ((HO.out.alloc _).alloc _) hg4)
                   have HO4 := Lib.hid hown4
                   clear hown4 hg4))
              go_roundw
              case rel => exact ⟨j + 1, acc ++ [rk], by omega, by go_num, by simp; omega, HS2, ⟨_, HO4.out⟩, HB4.out⟩
              case measure => simp [intOf]; omega
            | none =>
              have HN := Lib.hid (HT.out.trans (HNO.out HV1.out))
              clear HV HV1 HST HNO h1 h2
              go_wp2_with fail
              refine (HKN _).out.mono ?_
              rintro e wx ⟨rfl, rfl⟩
              go_wp2
              go_ret2
              rw [HN.out]
              exact ⟨⟨_, rfl, .nil_ _⟩, HBW.out.trans (HBA.out.mono HBW.out.size)⟩
          · have h3b : ((kd : Int) == 3) = false := by rw [beq_eq_false_iff_ne]; omega
            have HV1 : vp = none := by rw [HV.out, if_neg h1, if_neg h2, if_neg h3]
            have HN := Lib.hid (HT.out.trans (HNO.out HV1))
            clear HV HV1 HST HNO h1 h2 h3
            go_wp2_with fail
            refine (HKN _).out.mono ?_
            rintro e wx ⟨rfl, rfl⟩
            go_wp2
            go_ret2
            rw [HN.out]
            exact ⟨⟨_, rfl, .nil_ _⟩, HBW.out.trans (HBA.out.mono HBW.out.size)⟩
    · have HE : Hid (t = some acc) := by
        have e : ps.take j = ps := List.take_of_length_le (by omega)
        rw [Hid, HT.out, ← HS.out, e]
      go_wp2
      go_ret2
      rw [HE.out]
      exact ⟨⟨_, rfl, .of_own HO.out⟩, HBW.out⟩

end Go.Proofs.Ytbbplpmaknaadaa
