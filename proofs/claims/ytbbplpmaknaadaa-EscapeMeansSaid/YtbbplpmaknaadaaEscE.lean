/-
  Layer 23 (escape): Start, the program's. Rows of at most 1000 runes, names of at most 1000 bytes, at most 1000 pairs.
-/
import Derived.Test.YtbbplpmaknaadaaEscD
import Derived.Test.YtbbplpmaknaadaaMix
namespace Go.Proofs.Ytbbplpmaknaadaa
open Go.RowKit Go.Lib

/-- a chain onto 'all below a base' -/
theorem bb {B : Nat} {a b c : World} (h : Below B a b) (k : Below b.heap.size b c) (hB : B ≤ b.heap.size) : Below B a c := h.trans (k.mono hB)

def startTo (ps : PairL) (hd : List Int) : Nat → Option (List Int)
  | 0 => some hd
  | k + 1 => match startTo ps hd k with
    | none => none
    | some acc => match ps[k]? with
      | none => some acc
      | some p => match attrF p.1.data.toList p.2 (quoteF p.2) with
        | none => none
        | some a => if (ps.take k).any (fun o => o.1.toList == p.1.toList) then none else some (acc ++ a)
def startF (nm : List UInt8) (empty : Bool) (ps : PairL) : Option (List Int) :=
  if nameF nm then (startTo ps ([60] ++ runesF nm) ps.length).map (fun acc => acc ++ (if empty then [47] else []) ++ [62]) else none

theorem startTo_none (ps : PairL) (hd : List Int) (k j : Nat) (h : startTo ps hd k = none) : startTo ps hd (k + j) = none := by
  induction j with
  | zero => exact h
  | succ j ih => show startTo ps hd (k + j + 1) = none
                 rw [startTo, ih]
theorem startTo_end (ps : PairL) (hd : List Int) (k : Nat) (hk : k ≤ ps.length) (h : startTo ps hd k = none) : startTo ps hd ps.length = none := by
  have := startTo_none ps hd k (ps.length - k) h
  rwa [show k + (ps.length - k) = ps.length by omega] at this
theorem startTo_step (ps : PairL) (hd acc : List Int) (k : Nat) (hk : k < ps.length) (h : startTo ps hd k = some acc) :
    startTo ps hd (k + 1) = match attrF ps[k].1.data.toList ps[k].2 (quoteF ps[k].2) with
      | none => none
      | some a => if (ps.take k).any (fun o => o.1.toList == ps[k].1.toList) then none else some (acc ++ a) := by
  rw [startTo, h, List.getElem?_eq_getElem hk]
theorem attrF_len (nm : List UInt8) (l : List Int) (q : Int) (a : List Int) (h : attrF nm l q = some a) : a.length ≤ 6 * l.length + 4 + nm.length := by
  have hv := valueF_len l q
  have hr := runesF_len nm
  unfold attrF at h
  split at h
  · cases h
  · rename_i v hv2
    rw [hv2] at hv
    split at h
    · injection h with h
      subst h
      simp at hv ⊢
      omega
    · cases h

theorem Start1_ok (w : World) (bx : Nat) (nm : ByteArray) (hc : w.cell? ⟨bx, 0, none⟩ = some (.string nm)) :
    NamedOk Try.prog 64 #[.pointer (some ⟨bx, 0, none⟩)] (fun o => o.toList == nm.toList) w := fun W on A n c hW => by
  have hc1 := cell_keep hW hc
  have hc2 := cell_keep (ba W (.cells #[.string on, .slice A n c] 45)) hc1
  go_enter Try.func64, Try.ntmps64
  go_wp2
  go_ret
  exact ⟨rfl, ba _ _⟩
theorem eg_Start1 : ∀ args w, (callFunc 64 args).run Try.prog w = .ok (.enter 64 args) w := enters_of Try.func64 (by kernel_rfl) rfl

theorem RowsEach2 {w : World} {v1 v2 : Value} {l1 l2 : List Int} (h1 : RunesV w v1 l1) (h2 : RunesV w v2 l2) :
    ∀ (i : Nat) (v : Value) (l : List Int), [v1, v2][i]? = some v → [l1, l2][i]? = some l → RunesV w v l := by
  intro i v l hv hl
  match i with
  | 0 => simp at hv hl; subst hv hl; exact h1
  | 1 => simp at hv hl; subst hv hl; exact h2
  | i + 2 => simp at hv
theorem sum2 (a b : List Int) : sumLen [a, b] = a.length + b.length := by simp [sumLen]

set_option maxHeartbeats 4000000 in
set_option maxRecDepth 100000 in
theorem Start_any (nm : ByteArray) (emp : Bool) (S : Nat → Prop) (A : Option Addr) (n c : Nat) (ps : PairL) (vs : List Value) (w : World) (hr : PairsV w S A n c ps vs) (hn9 : ps.length ≤ 1000) (hnm : nm.size ≤ 1000)
    (hps : ∀ p ∈ ps, p.1.size ≤ 1000 ∧ p.2.length ≤ 1000) :
    Calls Try.prog 36 #[.string nm, .bool emp, .slice A n c] w fun e w' => OptV w' (startF nm.data.toList emp ps) e ∧ Below w.heap.size w w' := by
  have hle := hr.rd.le
  have hmx : c ≤ 9223372036854775807 := hr.rd.max
  obtain rfl := hr.n_eq
  have HR := Lib.hid hr
  clear hr
  have HN := fun W => Lib.hid (NName_any nm W (by omega))
  have HRU := fun W => Lib.hid (ERunes_any nm W (by omega))
  have HT : Hid (startF nm.data.toList emp ps = if nameF nm.data.toList then (startTo ps ([60] ++ runesF nm.data.toList) ps.length).map (fun acc => acc ++ (if emp then [47] else []) ++ [62]) else none) := rfl
  have HRL : Hid ((runesF nm.data.toList).length ≤ 1000) := Nat.le_trans (runesF_len _) (by simpa using hnm)
  generalize startF nm.data.toList emp ps = t at HT ⊢
  generalize runesF nm.data.toList = rn at HT HRU HRL
  generalize nameF nm.data.toList = nb at HN HT
  cases nb with
  | false =>
    go_enter Try.func36, Try.ntmps36
    go_wp2_with (go_at_call 57; refine (HN _).out.mono ?_; rintro e w3 ⟨rfl, hb3⟩)
    go_ret2
    rw [HT.out]
    exact ⟨⟨_, rfl, .nil_ _⟩, hb3⟩
  | true =>
    go_enter Try.func36, Try.ntmps36
    go_wp2_with (go_at_call 57; refine (HN _).out.mono ?_; rintro e w3 ⟨rfl, hb3⟩)
    refine (HRU _).out.mono ?_
    rintro e w4 ⟨v4, rfl, ⟨n4, ho4⟩, hb4⟩
    obtain ⟨A4, c4, rfl, hr4⟩ := own_form ho4
    go_wp2_with fail
    refine (Joined_any (some ⟨w4.heap.size, 0, none⟩) 2 2 [[60], rn] _ _ (RowsV.lit _ _ rfl _ _ _ 2 rfl rfl (by decide)
       (RowsEach2 ((RunesV.lit w3 _ rfl _ [60] 1 rfl (by decide) _ rfl).below hb4) (RunesV.of_own ho4)) _ rfl)
       (by rw [sum2]; have := HRL.out; simp; omega)).mono ?_
    rintro e w6 ⟨v6, rfl, ⟨n6, ho6⟩, hb6⟩
    have hbb := bt (bt (bt hb3 (ba _ _)) hb4) (bt (ba _ _) hb6)
    have ho6 := own_base (base' := w.heap.size) (own_eq ho6 (ys := [60] ++ rn) (by simp)) (by have := (bt (bt hb3 (ba _ _)) hb4).size; simp; omega)
    generalize hhd : [60] ++ rn = hd at HT ho6
    have hhl : hd.length ≤ 1001 := by rw [← hhd]; have := HRL.out; simp; omega
    have HO6 := Lib.hid ho6
    have HB6 := Lib.hid hbb
    clear ho6 hbb hb6 ho4 hr4 hb4 hb3 hhd
    go_wp2
    go_loopw [8, 23] (fun v i wr => ∃ (k : Nat) (acc : List Int), k ≤ ps.length ∧ i = .int .i64 k ∧ acc.length ≤ 1001 + k * 8000 ∧ Hid (startTo ps hd k = some acc) ∧ Hid (∃ n', wr.ownsRow w.heap.size 21 1 v n' (rc acc)) ∧ Hid (Below w.heap.size w wr))
      (fun _ i _ => ps.length - (intOf i).toNat)
    case atStart => exact ⟨0, hd, Nat.zero_le _, rfl, by omega, rfl, ⟨_, HO6.out⟩, HB6.out⟩
    case round =>
      obtain ⟨k, acc, hk, rfl, hal, HS, HO, HB⟩ := hrel
      obtain ⟨no, HO⟩ := HO.out
      have hno := rc_own_len HO
      have hnob : no ≤ 8002000 := by omega
      clear hno
      obtain ⟨Ao, co, rfl, hro⟩ := own_form HO
      have hco2 : co ≤ 9223372036854775807 := hro.max
      have HO := Lib.hid HO
      clear hro
      by_cases hlt : k < ps.length
      · obtain ⟨b, u, Av, cv, rfl, hc0, hc1, hrv⟩ := (HR.out.below HB.out).pair hlt
        have hpk := hps _ (List.getElem_mem hlt)
        have HST := Lib.hid (startTo_step ps hd acc k hlt HS.out)
        have HEND := Lib.hid (startTo_end ps hd (k + 1) (by omega))
        have HTK := Lib.hid ((HR.out.below HB.out).take (k := k) hk)
        have hp1 := hpk.1
        have hp2 := hpk.2
        have HAL := fun q a => attrF_len ps[k].1.data.toList ps[k].2 q a
        have hsz : ps[k].1.data.toList.length = ps[k].1.size := by simp
        clear hpk
        generalize ps[k].1 = pn at hc0 HST hp1 HAL hsz
        generalize ps[k].2 = pl at hc1 hrv HST hp2 HAL
        have hb0 := box_cell wr #[.string pn, .slice Av pl.length cv] 45 0 (u := .string pn) rfl
        have hb1 := box_cell wr #[.string pn, .slice Av pl.length cv] 45 1 (u := .slice Av pl.length cv) rfl
        have HAT := fun W (h : Rd W _ 1 Av pl.length cv (rc pl)) => Lib.hid (Attr_any pn (fun b => b < wr.heap.size) Av pl.length cv pl (quoteF pl) W h (by omega) (by omega))
        have HRV := Lib.hid hrv
        clear hrv
        cases ha : attrF pn.data.toList pl (quoteF pl) with
        | none =>
          rw [ha] at HAT HST
          have HNO : Hid (t = none) := by rw [Hid, HT.out, HEND.out HST.out]; rfl
          clear ha HST HEND
          go_wp2
          have HBX := Lib.hid (ba wr (.cells #[.string pn, .slice Av pl.length cv] 45))
          generalize wr.alloc (.cells #[.string pn, .slice Av pl.length cv] 45) = W1 at hb0 hb1 HBX
          have HRV1 := Lib.hid (HRV.out.below HBX.out)
          refine wp_region_mixB [(0, true), (1, true), (2, true), (3, false), (4, false), (5, true), (6, true), (7, true), (8, true), (9, true)] (by kernel_rfl) (by kernel_rfl) (fun _ _ _ _ _ h => h) ?_
          intro wd HLE
          have hq0 : ∀ W, LeB wd W → W.cell? ⟨wr.heap.size, 0, none⟩ = some (.string pn) := fun W hW => cell_keep hW (cell_keep HLE.out hb0)
          have hq1 : ∀ W, LeB wd W → W.cell? ⟨wr.heap.size, 1, none⟩ = some (.slice Av pl.length cv) := fun W hW => cell_keep hW (cell_keep HLE.out hb1)
          repeat (refine wpMix_still rfl (fun K hK => ?_); go_simp; first | (refine hK.out _ ?_; clear hK K) | (apply Exists.intro; refine ⟨fun W hW => ?_, hK.out _ ?_⟩; (first | rfl | (have z0 := hq0 W hW; have z1 := hq1 W hW; go_simp; first | done | rfl)); clear hK K))
          refine wpMix_loud rfl (fun K W HLW hK => ?_) LeB.refl
          go_simp
          refine (Quote_any _ Av pl.length cv pl W (HRV1.out.below (bt HLE.out HLW.out))).mono ?_
          rintro e w2 ⟨rfl, hb2⟩
          go_simp
          refine hK.out _ _ hb2 ?_
          clear hK K
          have HCH := Lib.hid (bt (bt HLE.out HLW.out) hb2)
          clear hb2 HLW
          refine wpMix_loud rfl (fun K W HLW hK => ?_) LeB.refl
          go_simp
          refine (HAT W (HRV1.out.below (bt HCH.out HLW.out))).out.mono ?_
          rintro e w5 ⟨⟨v5, rfl, hr5⟩, hb5⟩
          obtain ⟨A5, c5, rfl, hr6⟩ := hr5.lenB
          go_simp
          refine hK.out _ _ hb5 ?_
          clear hK K
          have HCH2 := Lib.hid (bt (bt HCH.out HLW.out) hb5)
          have HR5 := Lib.hid hr6
          clear hb5 HLW hr5 hr6
          repeat (refine wpMix_still rfl (fun K hK => ?_); go_simp; first | (refine hK.out _ ?_; clear hK K) | (apply Exists.intro; refine ⟨fun W hW => rfl, hK.out _ ?_⟩; clear hK K))
          refine wpMix_nil (fun W8 hW8 => ?_)
          have HR8 := Lib.hid (HR5.out.below hW8)
          have HB8 := Lib.hid (bt (bt HBX.out HCH2.out) hW8)
          have hbc := cell_keep (bt HCH2.out hW8) hb0
          clear hq0 hq1 hW8 HR5 HCH HCH2 HLE
          go_wp2
          go_ret2
          rw [HNO.out]
          exact ⟨⟨_, rfl, .nil_ _⟩, bb HB.out HB8.out HB.out.size⟩
        | some a =>
          rw [ha] at HAT HST
          have hal2 := HAL _ a ha
          clear ha HAL
          have HCP := fun W (h : Below wr.heap.size wr W) (hc : W.cell? ⟨wr.heap.size, 0, none⟩ = some (.string pn)) =>
            Lib.hid (ContainsPair_any S (some ⟨b, u, none⟩) k c (ps.take k) (vs.take k) _ _ (fun o => o.toList == pn.toList) W eg_Start1 (HTK.out.below h) (Start1_ok W wr.heap.size pn hc))
          cases hd : (ps.take k).any (fun o => o.1.toList == pn.toList) with
          | true =>
            rw [hd] at HCP HST
            have HNO : Hid (t = none) := by rw [Hid, HT.out, HEND.out HST.out]; rfl
            clear hd HST HEND
            go_wp2
            have HBX := Lib.hid (ba wr (.cells #[.string pn, .slice Av pl.length cv] 45))
            generalize wr.alloc (.cells #[.string pn, .slice Av pl.length cv] 45) = W1 at hb0 hb1 HBX
            have HRV1 := Lib.hid (HRV.out.below HBX.out)
            refine wp_region_mixB [(0, true), (1, true), (2, true), (3, false), (4, false), (5, true), (6, true), (7, true), (8, true), (9, true)] (by kernel_rfl) (by kernel_rfl) (fun _ _ _ _ _ h => h) ?_
            intro wd HLE
            have hq0 : ∀ W, LeB wd W → W.cell? ⟨wr.heap.size, 0, none⟩ = some (.string pn) := fun W hW => cell_keep hW (cell_keep HLE.out hb0)
            have hq1 : ∀ W, LeB wd W → W.cell? ⟨wr.heap.size, 1, none⟩ = some (.slice Av pl.length cv) := fun W hW => cell_keep hW (cell_keep HLE.out hb1)
            repeat (refine wpMix_still rfl (fun K hK => ?_); go_simp; first | (refine hK.out _ ?_; clear hK K) | (apply Exists.intro; refine ⟨fun W hW => ?_, hK.out _ ?_⟩; (first | rfl | (have z0 := hq0 W hW; have z1 := hq1 W hW; go_simp; first | done | rfl)); clear hK K))
            refine wpMix_loud rfl (fun K W HLW hK => ?_) LeB.refl
            go_simp
            refine (Quote_any _ Av pl.length cv pl W (HRV1.out.below (bt HLE.out HLW.out))).mono ?_
            rintro e w2 ⟨rfl, hb2⟩
            go_simp
            refine hK.out _ _ hb2 ?_
            clear hK K
            have HCH := Lib.hid (bt (bt HLE.out HLW.out) hb2)
            clear hb2 HLW
            refine wpMix_loud rfl (fun K W HLW hK => ?_) LeB.refl
            go_simp
            refine (HAT W (HRV1.out.below (bt HCH.out HLW.out))).out.mono ?_
            rintro e w5 ⟨⟨v5, rfl, hr5⟩, hb5⟩
            have hr5 : RunesV w5 v5 a := hr5
            obtain ⟨A5, c5, rfl, hr6⟩ := hr5.lenB
            go_simp
            refine hK.out _ _ hb5 ?_
            clear hK K
            have HCH2 := Lib.hid (bt (bt HCH.out HLW.out) hb5)
            have HR5 := Lib.hid hr6
            clear hb5 HLW hr5 hr6
            repeat (refine wpMix_still rfl (fun K hK => ?_); go_simp; first | (refine hK.out _ ?_; clear hK K) | (apply Exists.intro; refine ⟨fun W hW => rfl, hK.out _ ?_⟩; clear hK K))
            refine wpMix_nil (fun W8 hW8 => ?_)
            have HR8 := Lib.hid (HR5.out.below hW8)
            have HB8 := Lib.hid (bt (bt HBX.out HCH2.out) hW8)
            have hbc := cell_keep (bt HCH2.out hW8) hb0
            clear hq0 hq1 hW8 HR5 HCH HCH2 HLE
            go_wp2_with (go_at_call 63; refine (HCP _ HB8.out hbc).out.mono ?_; rintro e w9 ⟨rfl, hb9⟩)
            go_ret2
            rw [HNO.out]
            exact ⟨⟨_, rfl, .nil_ _⟩, bb HB.out (bt HB8.out hb9) HB.out.size⟩
          | false =>
            rw [hd] at HCP HST
            clear hd HEND
            go_wp2
            have HBX := Lib.hid (ba wr (.cells #[.string pn, .slice Av pl.length cv] 45))
            generalize wr.alloc (.cells #[.string pn, .slice Av pl.length cv] 45) = W1 at hb0 hb1 HBX
            have HRV1 := Lib.hid (HRV.out.below HBX.out)
            refine wp_region_mixB [(0, true), (1, true), (2, true), (3, false), (4, false), (5, true), (6, true), (7, true), (8, true), (9, true)] (by kernel_rfl) (by kernel_rfl) (fun _ _ _ _ _ h => h) ?_
            intro wd HLE
            have hq0 : ∀ W, LeB wd W → W.cell? ⟨wr.heap.size, 0, none⟩ = some (.string pn) := fun W hW => cell_keep hW (cell_keep HLE.out hb0)
            have hq1 : ∀ W, LeB wd W → W.cell? ⟨wr.heap.size, 1, none⟩ = some (.slice Av pl.length cv) := fun W hW => cell_keep hW (cell_keep HLE.out hb1)
            repeat (refine wpMix_still rfl (fun K hK => ?_); go_simp; first | (refine hK.out _ ?_; clear hK K) | (apply Exists.intro; refine ⟨fun W hW => ?_, hK.out _ ?_⟩; (first | rfl | (have z0 := hq0 W hW; have z1 := hq1 W hW; go_simp; first | done | rfl)); clear hK K))
            refine wpMix_loud rfl (fun K W HLW hK => ?_) LeB.refl
            go_simp
            refine (Quote_any _ Av pl.length cv pl W (HRV1.out.below (bt HLE.out HLW.out))).mono ?_
            rintro e w2 ⟨rfl, hb2⟩
            go_simp
            refine hK.out _ _ hb2 ?_
            clear hK K
            have HCH := Lib.hid (bt (bt HLE.out HLW.out) hb2)
            clear hb2 HLW
            refine wpMix_loud rfl (fun K W HLW hK => ?_) LeB.refl
            go_simp
            refine (HAT W (HRV1.out.below (bt HCH.out HLW.out))).out.mono ?_
            rintro e w5 ⟨⟨v5, rfl, hr5⟩, hb5⟩
            have hr5 : RunesV w5 v5 a := hr5
            obtain ⟨A5, c5, rfl, hr6⟩ := hr5.lenB
            go_simp
            refine hK.out _ _ hb5 ?_
            clear hK K
            have HCH2 := Lib.hid (bt (bt HCH.out HLW.out) hb5)
            have HR5 := Lib.hid hr6
            clear hb5 HLW hr5 hr6
            repeat (refine wpMix_still rfl (fun K hK => ?_); go_simp; first | (refine hK.out _ ?_; clear hK K) | (apply Exists.intro; refine ⟨fun W hW => rfl, hK.out _ ?_⟩; clear hK K))
            refine wpMix_nil (fun W8 hW8 => ?_)
            have HR8 := Lib.hid (HR5.out.below hW8)
            have HB8 := Lib.hid (bt (bt HBX.out HCH2.out) hW8)
            have hbc := cell_keep (bt HCH2.out hW8) hb0
            clear hq0 hq1 hW8 HR5 HCH HCH2 HLE
            go_wp2_with (first
              | (go_at_call 63
                 refine (HCP _ HB8.out hbc).out.mono ?_
                 rintro e w9 ⟨rfl, hb9⟩
                 have HO9 := Lib.hid (own_below HO.out (bt HB8.out hb9))
                 have HB9 := Lib.hid (bb HB.out (bt HB8.out hb9) HB.out.size)
                 have HR9 := Lib.hid (HR8.out.below hb9))
              | (at_builtin
                 refine append_runes _ rfl (.tmp 45) (.tmp 46) rfl w.heap.size _ _ _ rfl HO9.out _ _ _ c5 a rfl HR9.out (by first | omega | (simp; omega)) HB9.out.size ?_
                 intro A10 c10 w10 hown10 hg10 _ _
                 have HB10 := Lib.hid (below_own HB9.out HB9.out.size HO9.out hg10)
                 have HO10 := Lib.hid hown10
                 clear hown10 hg10))
            go_roundw
            case rel => exact ⟨k + 1, acc ++ a, by omega, by go_num, by rw [List.length_append]; omega, HST.out, ⟨_, HO10.out⟩, HB10.out⟩
            case measure => simp [intOf]; omega
      · have e : k = ps.length := by omega
        subst e
        cases emp with
        | true =>
          go_wp2_with (first
            | (at_builtin
               refine append_runes _ rfl (.tmp 50) (.tmp 51) rfl w.heap.size _ _ _ rfl (HO.out.alloc _) _ _ 1 1 [_] rfl (Rd.litN _ wr.heap.size rfl _ #[.int .i32 _] 1 1 rfl (by decide)) (by omega) (by have := HB.out.size; simp; omega) ?_
               intro A5 c5 w5 hown5 hg5 _ _
               have HB5 := Lib.hid (below_own (HB.out.alloc HB.out.size _) (by have := HB.out.size; simp; omega) (HO.out.alloc _) hg5)
               have HO5 := Lib.hid hown5
               clear hown5 hg5)
            | (at_builtin
               refine append_runes _ rfl (.tmp 53) (.tmp 54) rfl w.heap.size _ _ _ rfl (HO5.out.alloc _) _ _ 1 1 [_] rfl (Rd.litN _ w5.heap.size rfl _ #[.int .i32 _] 1 1 rfl (by decide)) (by omega) (by have := HB5.out.size; simp; omega) ?_
               intro A6 c6 w6 hown6 hg6 _ _
               have HB6 := Lib.hid (below_own (HB5.out.alloc HB5.out.size _) (by have := HB5.out.size; simp; omega) (HO5.out.alloc _) hg6)
               have HO6 := Lib.hid hown6
               clear hown6 hg6))
          go_ret2
          rw [HT.out, HS.out]
          exact ⟨⟨_, rfl, .of_own HO6.out⟩, HB6.out⟩
        | false =>
          go_wp2_with (first
            | (at_builtin
               refine append_runes _ rfl (.tmp 53) (.tmp 54) rfl w.heap.size _ _ _ rfl (HO.out.alloc _) _ _ 1 1 [_] rfl (Rd.litN _ wr.heap.size rfl _ #[.int .i32 _] 1 1 rfl (by decide)) (by omega) (by have := HB.out.size; simp; omega) ?_
               intro A6 c6 w6 hown6 hg6 _ _
               have HB6 := Lib.hid (below_own (HB.out.alloc HB.out.size _) (by have := HB.out.size; simp; omega) (HO.out.alloc _) hg6)
               have HO6 := Lib.hid hown6
               clear hown6 hg6))
          go_ret2
          rw [HT.out, HS.out]
          exact ⟨⟨_, rfl, .of_own (own_eq HO6.out (by simp))⟩, HB6.out⟩

end Go.Proofs.Ytbbplpmaknaadaa
