/-
  Layer 23 (escape): Start, the document's. Rows of at most 1000 runes, names of at most 1000 bytes, at most 1000 pairs.
-/
import Derived.Test.YtbbplpmaknaadaaEscE
namespace Go.Proofs.Ytbbplpmaknaadaa
open Go.RowKit Go.Lib

set_option maxHeartbeats 4000000 in
set_option maxRecDepth 100000 in
theorem RStart_any (nm : ByteArray) (emp : Bool) (S : Nat → Prop) (A : Option Addr) (n c : Nat) (ps : PairL) (vs : List Value) (w : World) (hr : PairsV w S A n c ps vs) (hn9 : ps.length ≤ 1000) (hnm : nm.size ≤ 1000)
    (hps : ∀ p ∈ ps, p.1.size ≤ 1000 ∧ p.2.length ≤ 1000) :
    Calls Try.prog 37 #[.string nm, .bool emp, .slice A n c] w fun e w' => OptV w' (startF nm.data.toList emp ps) e ∧ Below w.heap.size w w' := by
  have hle := hr.rd.le
  have hmx : c ≤ 9223372036854775807 := hr.rd.max
  obtain rfl := hr.n_eq
  have HR := Lib.hid hr
  clear hr
  have HN := fun W => Lib.hid (RName_any nm W (by omega))
  have HRU := fun W => Lib.hid (RRunes_any nm W (by omega))
  have HT : Hid (startF nm.data.toList emp ps = if nameF nm.data.toList then (startTo ps ([60] ++ runesF nm.data.toList) ps.length).map (fun acc => acc ++ (if emp then [47] else []) ++ [62]) else none) := rfl
  have HRL : Hid ((runesF nm.data.toList).length ≤ 1000) := Nat.le_trans (runesF_len _) (by simpa using hnm)
  generalize startF nm.data.toList emp ps = t at HT ⊢
  generalize runesF nm.data.toList = rn at HT HRU HRL
  generalize nameF nm.data.toList = nb at HN HT
  cases nb with
  | false =>
    go_enter Try.func37, Try.ntmps37
    go_wp2_with (go_at_call 59; refine (HN _).out.mono ?_; rintro e w3 ⟨rfl, hb3⟩)
    go_ret2
    rw [HT.out]
    exact ⟨⟨_, rfl, .nil_ _⟩, hb3⟩
  | true =>
    go_enter Try.func37, Try.ntmps37
    go_wp2_with (go_at_call 59; refine (HN _).out.mono ?_; rintro e w3 ⟨rfl, hb3⟩)
    refine (HRU _).out.mono ?_
    rintro e w4 ⟨v4, rfl, ⟨n4, ho4⟩, hb4⟩
    obtain ⟨A4, c4, rfl, hr4⟩ := own_form ho4
    have hn4 : n4 ≤ 1000 := by rw [rc_own_len ho4]; exact HRL.out
    have HOL := Lib.hid (own_below (own_litN w3 _ rfl 21 #[.int .i32 60] 1 1 rfl (by decide) (rc [60]) rfl) hb4)
    have HB4 := Lib.hid (bt (ba w3 (.cells #[.int .i32 60] 21)) hb4)
    have HB3 := Lib.hid hb3
    have HR4 := Lib.hid hr4
    clear ho4 hr4 hb4 hb3
    go_wp2_with (first
      | (at_builtin
         refine append_runes _ rfl (.tmp 18) (.tmp 20) rfl w3.heap.size _ _ _ rfl HOL.out _ _ n4 c4 rn rfl HR4.out (by omega) HB4.out.size ?_
         intro A6 c6 w6 hown6 hg6 _ _
         have hb6 := below_own HB4.out HB4.out.size HOL.out hg6
         have HB6 := Lib.hid (bt HB3.out hb6)
         have HO6' := Lib.hid (own_base (base' := w.heap.size) hown6 HB3.out.size)
         clear hown6 hg6 hb6))
    generalize hhd : [60] ++ rn = hd at HT HO6'
    have hhl : hd.length ≤ 1001 := by rw [← hhd]; have := HRL.out; simp; omega
    have HO6 := Lib.hid HO6'.out
    clear HO6' hhd HOL HR4 HB4
    go_loopw [8, 24] (fun v i wr => ∃ (k : Nat) (acc : List Int), k ≤ ps.length ∧ i = .int .i64 k ∧ acc.length ≤ 1001 + k * 8000 ∧ Hid (startTo ps hd k = some acc) ∧ Hid (∃ n', wr.ownsRow w.heap.size 21 1 v n' (rc acc)) ∧ Hid (Below w.heap.size w wr))
      (fun _ i _ => ps.length - (intOf i).toNat)
    case atStart => exact ⟨0, hd, Nat.zero_le _, rfl, by omega, rfl, ⟨_, HO6.out⟩, HB6.out⟩
    case round =>
      obtain ⟨k, acc, hk, rfl, hal, HS, HO, HB⟩ := hrel
      obtain ⟨no, HO⟩ := HO.out
      have hno := rc_own_len HO
      have hnob : no ≤ 8002000 := by omega
      clear hno
      obtain ⟨Ao, co, rfl, hro⟩ := own_form HO
      have hco2 : co ≤ 9223372036854775807 := hro.max
      have HO := Lib.hid HO
      clear hro
      by_cases hlt : k < ps.length
      · obtain ⟨b, u, Av, cv, rfl, hc0, hc1, hrv⟩ := (HR.out.below HB.out).pair hlt
        have hpk := hps _ (List.getElem_mem hlt)
        have HST := Lib.hid (startTo_step ps hd acc k hlt HS.out)
        have HEND := Lib.hid (startTo_end ps hd (k + 1) (by omega))
        have HTK := Lib.hid ((HR.out.below HB.out).take (k := k) hk)
        have hp1 := hpk.1
        have hp2 := hpk.2
        have HAL := fun q a => attrF_len ps[k].1.data.toList ps[k].2 q a
        have hsz : ps[k].1.data.toList.length = ps[k].1.size := by simp
        clear hpk
        generalize ps[k].1 = pn at hc0 HST hp1 HAL hsz
        generalize ps[k].2 = pl at hc1 hrv HST hp2 HAL
        have hb0 := box_cell wr #[.string pn, .slice Av pl.length cv] 47 0 (u := .string pn) rfl
        have hb1 := box_cell wr #[.string pn, .slice Av pl.length cv] 47 1 (u := .slice Av pl.length cv) rfl
        have HAT := fun W (h : Rd W _ 1 Av pl.length cv (rc pl)) => Lib.hid (RAttr_any pn (fun b => b < wr.heap.size) Av pl.length cv pl (quoteF pl) W h (by omega) (by omega))
        have HRV := Lib.hid hrv
        clear hrv
        cases ha : attrF pn.data.toList pl (quoteF pl) with
        | none =>
          rw [ha] at HAT HST
          have HNO : Hid (t = none) := by rw [Hid, HT.out, HEND.out HST.out]; rfl
          clear ha HST HEND
          go_wp2
          have HBX := Lib.hid (ba wr (.cells #[.string pn, .slice Av pl.length cv] 47))
          generalize wr.alloc (.cells #[.string pn, .slice Av pl.length cv] 47) = W1 at hb0 hb1 HBX
          have HRV1 := Lib.hid (HRV.out.below HBX.out)
          refine wp_region_mixB [(0, true), (1, true), (2, true), (3, false), (4, false), (5, true), (6, true), (7, true), (8, true), (9, true)] (by kernel_rfl) (by kernel_rfl) (fun _ _ _ _ _ h => h) ?_
          intro wd HLE
          have hq0 : ∀ W, LeB wd W → W.cell? ⟨wr.heap.size, 0, none⟩ = some (.string pn) := fun W hW => cell_keep hW (cell_keep HLE.out hb0)
          have hq1 : ∀ W, LeB wd W → W.cell? ⟨wr.heap.size, 1, none⟩ = some (.slice Av pl.length cv) := fun W hW => cell_keep hW (cell_keep HLE.out hb1)
          repeat (refine wpMix_still rfl (fun K hK => ?_); go_simp; first | (refine hK.out _ ?_; clear hK K) | (apply Exists.intro; refine ⟨fun W hW => ?_, hK.out _ ?_⟩; (first | rfl | (have z0 := hq0 W hW; have z1 := hq1 W hW; go_simp; first | done | rfl)); clear hK K))
          refine wpMix_loud rfl (fun K W HLW hK => ?_) LeB.refl
          go_simp
          refine (RQuote_any _ Av pl.length cv pl W (HRV1.out.below (bt HLE.out HLW.out)) (by omega)).mono ?_
          rintro e w2 ⟨rfl, rfl⟩
          go_simp
          refine hK.out _ _ (LeB.refl _) ?_
          clear hK K
          have HCH := Lib.hid (bt HLE.out HLW.out)
          clear HLW
          refine wpMix_loud rfl (fun K W HLW hK => ?_) LeB.refl
          go_simp
          refine (HAT W (HRV1.out.below (bt HCH.out HLW.out))).out.mono ?_
          rintro e w5 ⟨⟨v5, rfl, hr5⟩, hb5⟩
          obtain ⟨A5, c5, rfl, hr6⟩ := hr5.lenB
          go_simp
          refine hK.out _ _ hb5 ?_
          clear hK K
          have HCH2 := Lib.hid (bt (bt HCH.out HLW.out) hb5)
          have HR5 := Lib.hid hr6
          clear hb5 HLW hr5 hr6
          repeat (refine wpMix_still rfl (fun K hK => ?_); go_simp; first | (refine hK.out _ ?_; clear hK K) | (apply Exists.intro; refine ⟨fun W hW => rfl, hK.out _ ?_⟩; clear hK K))
          refine wpMix_nil (fun W8 hW8 => ?_)
          have HR8 := Lib.hid (HR5.out.below hW8)
          have HB8 := Lib.hid (bt (bt HBX.out HCH2.out) hW8)
          have hbc := cell_keep (bt HCH2.out hW8) hb0
          clear hq0 hq1 hW8 HR5 HCH HCH2 HLE
          go_wp2
          go_ret2
          rw [HNO.out]
          exact ⟨⟨_, rfl, .nil_ _⟩, bb HB.out HB8.out HB.out.size⟩
        | some a =>
          rw [ha] at HAT HST
          have hal2 := HAL _ a ha
          clear ha HAL
          have HDUP := Lib.hid (fun (j : Nat) (hj : j < k) (h : (ps[j].1.toList == pn.toList) = true) => (List.any_eq_true.2 ⟨ps[j], List.mem_take_iff_getElem.2 ⟨j, by omega, rfl⟩, h⟩ : (ps.take k).any (fun o => o.1.toList == pn.toList) = true))
          go_wp2
          have HBX := Lib.hid (ba wr (.cells #[.string pn, .slice Av pl.length cv] 47))
          generalize wr.alloc (.cells #[.string pn, .slice Av pl.length cv] 47) = W1 at hb0 hb1 HBX
          have HRV1 := Lib.hid (HRV.out.below HBX.out)
          refine wp_region_mixB [(0, true), (1, true), (2, true), (3, false), (4, false), (5, true), (6, true), (7, true), (8, true), (9, true)] (by kernel_rfl) (by kernel_rfl) (fun _ _ _ _ _ h => h) ?_
          intro wd HLE
          have hq0 : ∀ W, LeB wd W → W.cell? ⟨wr.heap.size, 0, none⟩ = some (.string pn) := fun W hW => cell_keep hW (cell_keep HLE.out hb0)
          have hq1 : ∀ W, LeB wd W → W.cell? ⟨wr.heap.size, 1, none⟩ = some (.slice Av pl.length cv) := fun W hW => cell_keep hW (cell_keep HLE.out hb1)
          repeat (refine wpMix_still rfl (fun K hK => ?_); go_simp; first | (refine hK.out _ ?_; clear hK K) | (apply Exists.intro; refine ⟨fun W hW => ?_, hK.out _ ?_⟩; (first | rfl | (have z0 := hq0 W hW; have z1 := hq1 W hW; go_simp; first | done | rfl)); clear hK K))
          refine wpMix_loud rfl (fun K W HLW hK => ?_) LeB.refl
          go_simp
          refine (RQuote_any _ Av pl.length cv pl W (HRV1.out.below (bt HLE.out HLW.out)) (by omega)).mono ?_
          rintro e w2 ⟨rfl, rfl⟩
          go_simp
          refine hK.out _ _ (LeB.refl _) ?_
          clear hK K
          have HCH := Lib.hid (bt HLE.out HLW.out)
          clear HLW
          refine wpMix_loud rfl (fun K W HLW hK => ?_) LeB.refl
          go_simp
          refine (HAT W (HRV1.out.below (bt HCH.out HLW.out))).out.mono ?_
          rintro e w5 ⟨⟨v5, rfl, hr5⟩, hb5⟩
          have hr5 : RunesV w5 v5 a := hr5
          obtain ⟨A5, c5, rfl, hr6⟩ := hr5.lenB
          go_simp
          refine hK.out _ _ hb5 ?_
          clear hK K
          have HCH2 := Lib.hid (bt (bt HCH.out HLW.out) hb5)
          have HR5 := Lib.hid hr6
          clear hb5 HLW hr5 hr6
          repeat (refine wpMix_still rfl (fun K hK => ?_); go_simp; first | (refine hK.out _ ?_; clear hK K) | (apply Exists.intro; refine ⟨fun W hW => rfl, hK.out _ ?_⟩; clear hK K))
          refine wpMix_nil (fun W8 hW8 => ?_)
          have HR8 := Lib.hid (HR5.out.below hW8)
          have HB8 := Lib.hid (bt (bt HBX.out HCH2.out) hW8)
          have hbc := cell_keep (bt HCH2.out hW8) hb0
          clear hq0 hq1 hW8 HR5 HCH HCH2 HLE
          go_wp2
          go_loopw [43] (fun i2 wr2 => ∃ j : Nat, j ≤ k ∧ i2 = .int .i64 j ∧ Hid ((ps.take j).any (fun o => o.1.toList == pn.toList) = false) ∧ Hid (Below W8.heap.size W8 wr2)) (fun i2 _ => k - (intOf i2).toNat)
          case atStart => exact ⟨0, Nat.zero_le _, rfl, rfl, Below.refl _ _⟩
          case round =>
            obtain ⟨j, hj, rfl, HJ, HBJ⟩ := hrel
            rename_i wr2
            by_cases hjk : j < k
            · have hjp : j < ps.length := by omega
              obtain ⟨b2, u2, Av2, cv2, hA, hd0, hd1, _⟩ := ((HR.out.below HB.out).below (bt HB8.out HBJ.out)).pair (k := j) hjp
              injection hA with hA
              injection hA with e1 e2
              subst e1 e2
              have hbj := cell_keep HBJ.out hbc
              have hbj2 := fun o => cell_keep (ba _ o) hbj
              cases hq : ps[j].1.toList == pn.toList with
              | true =>
                have hdt := HDUP.out j hjk hq
                have HST2 := HST.out
                rw [hdt] at HST2
                have HNO : Hid (t = none) := by rw [Hid, HT.out, HEND.out HST2]; rfl
                clear hdt HST2
                generalize ps[j].1 = qn at hd0 hq
                generalize ps[j].2.length = ql at hd1
                go_wp2
                go_ret2
                rw [HNO.out]
                exact ⟨⟨_, rfl, .nil_ _⟩, bb HB.out (bt (bt HB8.out HBJ.out) (ba _ _)) HB.out.size⟩
              | false =>
                have HJ2 : Hid ((ps.take (j + 1)).any (fun o => o.1.toList == pn.toList) = false) := by
                  rw [Hid, List.take_succ_eq_append_getElem hjp, List.any_append, HJ.out]; simp [hq]
                generalize ps[j].1 = qn at hd0 hq
                generalize ps[j].2.length = ql at hd1
                go_wp2
                go_roundw
                case rel => exact ⟨j + 1, by omega, by go_num, HJ2.out, bt HBJ.out (ba _ _)⟩
                case measure => simp [intOf]; omega
            · have e : j = k := by omega
              subst e
              have HST2 := HST.out
              rw [HJ.out] at HST2
              have HST3 : Hid (startTo ps hd (j + 1) = some (acc ++ a)) := HST2
              clear HST2
              have HO9 := Lib.hid (own_below HO.out (bt HB8.out HBJ.out))
              have HB9 := Lib.hid (bb HB.out (bt HB8.out HBJ.out) HB.out.size)
              have HR9 := Lib.hid (HR8.out.below HBJ.out)
              go_wp2_with (first
                | (at_builtin
                   refine append_runes _ rfl (.tmp 53) (.tmp 54) rfl w.heap.size _ _ _ rfl HO9.out _ _ _ c5 a rfl HR9.out (by first | omega | (simp; omega)) HB9.out.size ?_
                   intro A10 c10 w10 hown10 hg10 _ _
                   have HB10 := Lib.hid (below_own HB9.out HB9.out.size HO9.out hg10)
                   have HO10 := Lib.hid hown10
                   clear hown10 hg10))
              go_roundw
              case rel => exact ⟨j + 1, acc ++ a, by omega, by go_num, by rw [List.length_append]; omega, HST3.out, ⟨_, HO10.out⟩, HB10.out⟩
              case measure => simp [intOf]; omega
      · have e : k = ps.length := by omega
        subst e
        cases emp with
        | true =>
          go_wp2_with (first
            | (at_builtin
               refine append_runes _ rfl (.tmp 58) (.tmp 59) rfl w.heap.size _ _ _ rfl (HO.out.alloc _) _ _ 1 1 [_] rfl (Rd.litN _ wr.heap.size rfl _ #[.int .i32 _] 1 1 rfl (by decide)) (by omega) (by have := HB.out.size; simp; omega) ?_
               intro A5 c5 w5 hown5 hg5 _ _
               have HB5 := Lib.hid (below_own (HB.out.alloc HB.out.size _) (by have := HB.out.size; simp; omega) (HO.out.alloc _) hg5)
               have HO5 := Lib.hid hown5
               clear hown5 hg5)
            | (at_builtin
               refine append_runes _ rfl (.tmp 61) (.tmp 62) rfl w.heap.size _ _ _ rfl (HO5.out.alloc _) _ _ 1 1 [_] rfl (Rd.litN _ w5.heap.size rfl _ #[.int .i32 _] 1 1 rfl (by decide)) (by omega) (by have := HB5.out.size; simp; omega) ?_
               intro A6 c6 w6 hown6 hg6 _ _
               have HB6 := Lib.hid (below_own (HB5.out.alloc HB5.out.size _) (by have := HB5.out.size; simp; omega) (HO5.out.alloc _) hg6)
               have HO6 := Lib.hid hown6
               clear hown6 hg6))
          go_ret2
          rw [HT.out, HS.out]
          exact ⟨⟨_, rfl, .of_own HO6.out⟩, HB6.out⟩
        | false =>
          go_wp2_with (first
            | (at_builtin
               refine append_runes _ rfl (.tmp 61) (.tmp 62) rfl w.heap.size _ _ _ rfl (HO.out.alloc _) _ _ 1 1 [_] rfl (Rd.litN _ wr.heap.size rfl _ #[.int .i32 _] 1 1 rfl (by decide)) (by omega) (by have := HB.out.size; simp; omega) ?_
               intro A6 c6 w6 hown6 hg6 _ _
               have HB6 := Lib.hid (below_own (HB.out.alloc HB.out.size _) (by have := HB.out.size; simp; omega) (HO.out.alloc _) hg6)
               have HO6 := Lib.hid hown6
               clear hown6 hg6))
          go_ret2
          rw [HT.out, HS.out]
          exact ⟨⟨_, rfl, .of_own (own_eq HO6.out (by simp))⟩, HB6.out⟩

set_option maxHeartbeats 1000000 in
set_option maxRecDepth 100000 in
theorem REnd_any (nm : ByteArray) (w : World) (hnm : nm.size ≤ 10000000) :
    Calls Try.prog 39 #[.string nm] w fun e w' => OptV w' (endF nm.data.toList) e ∧ Below w.heap.size w w' := by
  have HN := fun W => Lib.hid (RName_any nm W (by omega))
  have HRU := fun W => Lib.hid (RRunes_any nm W (by omega))
  have HT : Hid (endF nm.data.toList = if nameF nm.data.toList then some ([60, 47] ++ runesF nm.data.toList ++ [62]) else none) := rfl
  have HRL : Hid ((runesF nm.data.toList).length ≤ 10000000) := Nat.le_trans (runesF_len _) (by simpa using hnm)
  generalize endF nm.data.toList = t at HT ⊢
  generalize runesF nm.data.toList = rn at HT HRU HRL
  generalize nameF nm.data.toList = nb at HN HT
  cases nb with
  | false =>
    go_enter Try.func39, Try.ntmps39
    go_wp2_with (go_at_call 59; refine (HN _).out.mono ?_; rintro e w3 ⟨rfl, hb3⟩)
    go_ret2
    rw [HT.out]
    exact ⟨⟨_, rfl, .nil_ _⟩, hb3⟩
  | true =>
    go_enter Try.func39, Try.ntmps39
    go_wp2_with (go_at_call 59; refine (HN _).out.mono ?_; rintro e w3 ⟨rfl, hb3⟩)
    refine (HRU _).out.mono ?_
    rintro e w4 ⟨v4, rfl, ⟨n4, ho4⟩, hb4⟩
    obtain ⟨A4, c4, rfl, hr4⟩ := own_form ho4
    have hn4 : n4 ≤ 10000000 := by rw [rc_own_len ho4]; exact HRL.out
    have HOL := Lib.hid (own_below (own_litN w3 _ rfl 21 #[.int .i32 60, .int .i32 47] 1 2 rfl (by decide) (rc [60, 47]) rfl) hb4)
    have HB4 := Lib.hid (bt (ba w3 (.cells #[.int .i32 60, .int .i32 47] 21)) hb4)
    have HB3 := Lib.hid hb3
    have HR4 := Lib.hid hr4
    clear ho4 hr4 hb4 hb3
    go_wp2_with (first
      | (at_builtin
         refine append_runes _ rfl (.tmp 8) (.tmp 10) rfl w3.heap.size _ _ _ rfl HOL.out _ _ n4 c4 rn rfl HR4.out (by omega) HB4.out.size ?_
         intro A6 c6 w6 hown6 hg6 _ _
         have HB6 := Lib.hid (below_own HB4.out HB4.out.size HOL.out hg6)
         have HO6 := Lib.hid hown6
         clear hown6 hg6)
      | (at_builtin
         refine append_runes _ rfl (.tmp 12) (.tmp 13) rfl w3.heap.size _ _ _ rfl (HO6.out.alloc _) _ _ 1 1 [_] rfl (Rd.litN _ w6.heap.size rfl _ #[.int .i32 _] 1 1 rfl (by decide)) (by omega) (by have := HB6.out.size; simp; omega) ?_
         intro A7 c7 w7 hown7 hg7 _ _
         have HB7 := Lib.hid (below_own (HB6.out.alloc HB6.out.size _) (by have := HB6.out.size; simp; omega) (HO6.out.alloc _) hg7)
         have HO7 := Lib.hid hown7
         clear hown7 hg7))
    go_ret2
    rw [HT.out]
    exact ⟨⟨_, rfl, .of_own HO7.out⟩, bt HB3.out HB7.out⟩

end Go.Proofs.Ytbbplpmaknaadaa
