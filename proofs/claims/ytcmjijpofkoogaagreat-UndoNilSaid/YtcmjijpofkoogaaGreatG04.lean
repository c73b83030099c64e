/- Lemmas, conditions told -/
import Derived.Test.YtcmjijpofkoogaaGreatG02
import Derived.Test.YtcmjijpofkoogaaGreatG01
import Derived.Lib.Bytealg
import Derived.Lib.Builder
import Derived.Lib.UnsafeStr
set_option linter.unusedSimpArgs false
set_option linter.unusedVariables false
namespace Go.Proofs.YtcmjijpofkoogaaGreat
open Go.RowKit Go.Lib
theorem subF_range (l : List Int) (k : Nat) (hk : k < l.length) : k < (subF l k).1 ∧ (subF l k).1 ≤ l.length := by
  have := subGo_range l l.length (k + 1) true (by omega) (by omega)
  unfold subF; omega
def docGo (l : List Int) (k : Nat) (ok : Bool) : Nat × Bool :=
  if h : k < l.length ∧ ok = true then
    (if l[k]'h.1 = 62 then (k + 1, true) else if isQuo (l[k]'h.1) then docGo l (quotedF l k).1 (quotedF l k).2 else if l[k]'h.1 = 91 then docGo l (subF l k).1 (subF l k).2 else docGo l (k + 1) true)
  else (l.length, false)
termination_by l.length - k
decreasing_by
  · have := quotedF_gt l k h.1; omega
  · have := subF_range l k h.1; omega
  · omega
theorem docGo_end (l : List Int) (k : Nat) (ok : Bool) (h : ¬ (k < l.length ∧ ok = true)) : docGo l k ok = (l.length, false) := by rw [docGo, dif_neg h]
theorem docGo_hit (l : List Int) (k : Nat) (h : k < l.length) (hq : l[k] = 62) : docGo l k true = (k + 1, true) := by rw [docGo, dif_pos ⟨h, rfl⟩, if_pos hq]
theorem docGo_quo (l : List Int) (k : Nat) (h : k < l.length) (h1 : l[k] ≠ 62) (hq : isQuo l[k] = true) : docGo l k true = docGo l (quotedF l k).1 (quotedF l k).2 := by
  conv => lhs; rw [docGo]
  rw [dif_pos ⟨h, rfl⟩, if_neg h1, if_pos hq]
theorem docGo_sub (l : List Int) (k : Nat) (h : k < l.length) (hq : l[k] = 91) : docGo l k true = docGo l (subF l k).1 (subF l k).2 := by
  conv => lhs; rw [docGo]
  rw [dif_pos ⟨h, rfl⟩, if_neg (by rw [hq]; decide), if_neg (by rw [hq]; decide), if_pos hq]
theorem docGo_next (l : List Int) (k : Nat) (h : k < l.length) (h1 : l[k] ≠ 62) (h2 : isQuo l[k] = false) (h3 : l[k] ≠ 91) : docGo l k true = docGo l (k + 1) true := by
  conv => lhs; rw [docGo]
  rw [dif_pos ⟨h, rfl⟩, if_neg h1, if_neg (by simp [h2]), if_neg h3]
def docTF (l : List Int) (k : Nat) : Nat × Nat × Bool := (7, (docGo l (k + 9) true).1, (docGo l (k + 9) true).2)
def markupF (l : List Int) (k : Nat) : Nat × Nat × Bool :=
  if startsF l k [60, 33, 45, 45] = true then upToF l 4 k 4 [45, 45, 62]
  else if startsF l k [60, 33, 91, 67, 68, 65, 84, 65, 91] = true then upToF l 6 k 9 [93, 93, 62]
  else if startsF l k [60, 63] = true then upToF l 5 k 2 [63, 62]
  else if startsF l k [60, 33, 68, 79, 67, 84, 89, 80, 69] = true then docTF l k
  else if startsF l k [60, 47] = true then endTF l k
  else if 0 < leadF l (k + 1) then startTF l k
  else (11, k + 1, false)
def isPlain (r : Int) : Bool := r != 60 && (r != 38 && r != -1)
def nextTF (l : List Int) (k : Nat) : Nat × Nat × Bool :=
  if l.getD k 0 = 60 then markupF l k else if l.getD k 0 = 38 then refF l k else if l.getD k 0 = -1 then (11, k + 1, false)
  else (1, k + ((l.drop k).takeWhile isPlain).length, true)
set_option maxHeartbeats 4000000 in
set_option maxRecDepth 100000 in
theorem Doctypes_any (S : Nat → Prop) (A : Option Addr) (n c : Nat) (l : List Int) (k : Nat) (w : World) (hr : Rd w S 1 A n c (rc l)) (hk : k + 9 ≤ l.length) (hl9 : l.length ≤ 1000000000) :
    Calls Tryz.prog 233 #[.slice A n c, .int .i64 k] w fun e w' => e = .returned (tokV (docTF l k) k) ∧ Below w.heap.size w w' := by
  obtain rfl := hr.rlen
  have hle := hr.le
  have hmx : c ≤ 9223372036854775807 := hr.max
  have HR := Lib.hid hr
  clear hr
  obtain ⟨t, ht⟩ : ∃ t, t = docGo l (k + 9) true := ⟨_, rfl⟩
  have HT := Lib.hid ht
  have HTT : Hid (docTF l k = (7, t.1, t.2)) := by rw [Hid, ht]; rfl
  clear ht
  go_enter Tryz.func233, Tryz.ntmps233
  go_wp2
  have HTH0 := Lib.hid (there_lit w #[.int .i64 0, .int .i64 0, .int .i64 0, .bool false] 211)
  have HB0 := Lib.hid (ba w (.cells #[.int .i64 0, .int .i64 0, .int .i64 0, .bool false] 211))
  have HSZ : Hid (w.heap.size < (w.alloc (.cells #[.int .i64 0, .int .i64 0, .int .i64 0, .bool false] 211)).heap.size) := by simp [Hid]
  generalize w.alloc (.cells #[.int .i64 0, .int .i64 0, .int .i64 0, .bool false] 211) = W0 at HTH0 HB0 HSZ
  have HTH0 : Hid (W0.there w.heap.size 0 4) := HTH0.out
  go_loopw [5, 6] (fun o i wr => ∃ (j : Nat) (ok : Bool), j ≤ l.length ∧ i = .int .i64 j ∧ o = .bool ok ∧ Hid (t = docGo l j ok) ∧ Hid (Below w.heap.size w wr) ∧ Hid (wr.there w.heap.size 0 4) ∧ Hid (w.heap.size < wr.heap.size)) (fun _ i _ => l.length - (intOf i).toNat)
  case atStart => exact ⟨k + 9, true, by omega, by go_num, rfl, HT.out, HB0.out, HTH0.out, HSZ.out⟩
  case round =>
    obtain ⟨j, ok, hj, rfl, rfl, HJ, HB, HTH, HLT⟩ := hrel
    by_cases hlt : j < l.length
    · have hji : (j : Int) < (l.length : Int) := by omega
      cases ok with
      | true =>
        obtain ⟨b, o, rfl, hc0⟩ := (HR.out.below HB.out).rune hlt
        have H1 := Lib.hid (docGo_hit l j hlt)
        have H2 := Lib.hid (docGo_quo l j hlt)
        have H3 := Lib.hid (docGo_sub l j hlt)
        have H4 := Lib.hid (docGo_next l j hlt)
        have HQT := Lib.hid (LQuote_any l[j])
        have HQD := Lib.hid (Quoted_any S _ l.length c l j _ (HR.out.below HB.out) hlt hl9)
        have HSB := Lib.hid (Subset_any S _ l.length c l j _ (HR.out.below HB.out) hlt hl9)
        obtain ⟨hg1, hg2⟩ := quotedF_gt l j hlt
        obtain ⟨hs1, hs2⟩ := subF_range l j hlt
        generalize (quotedF l j).1 = qj at HQD H2 hg1 hg2
        generalize (quotedF l j).2 = qb at HQD H2
        generalize (subF l j).1 = sj at HSB H3 hs1 hs2
        generalize (subF l j).2 = sb at HSB H3
        generalize l[j] = r at hc0 HQT H1 H2 H3 H4
        by_cases h62 : r = 62
        · have HE : Hid (docTF l k = (7, j + 1, true)) := by rw [Hid, HTT.out, HJ.out.trans (H1.out h62)]
          subst h62
          clear H1 H2 H3 H4 HJ HTT HQD HSB HQT
          have HL9 := Lib.hid (load_struct (P := Tryz.prog) (T := 211) wr w.heap.size [.int .i64 7, .int .i64 k, .int .i64 ((j : Int) + 1), .bool true] HTH.out (by kernel_rfl) Tryz.underlying211 rfl)
          have HB9 := Lib.hid (below_setCells2 HB.out w.heap.size (Nat.le_refl _) [.int .i64 7, .int .i64 k, .int .i64 ((j : Int) + 1), .bool true] 0)
          obtain ⟨⟨z0, hz0⟩, hf0⟩ := there_cell HTH.out 0 (by decide)
          obtain ⟨⟨z1, hz1⟩, hf1⟩ := there_cell HTH.out 1 (by decide)
          obtain ⟨⟨z2, hz2⟩, hf2⟩ := there_cell HTH.out 2 (by decide)
          obtain ⟨⟨z3, hz3⟩, hf3⟩ := there_cell HTH.out 3 (by decide)
          go_wp2
          refine bodyPost_ret (results_cell1 rfl _ rfl HL9.out) rfl ?_
          rw [HE.out]
          exact ⟨by simp [tokV], HB9.out⟩
        · have h62b : (r == 62) = false := by simpa using h62
          have HQT2 := fun W => Lib.hid (HQT.out W)
          cases hq : isQuo r with
          | true =>
            have HN := Lib.hid (HJ.out.trans (H2.out h62 hq))
            rw [hq] at HQT2
            clear H1 H2 H3 H4 HJ HSB HQT h62 hq
            go_wp2_with fail
            refine (HQT2 _).out.mono ?_
            rintro e wx ⟨rfl, rfl⟩
            go_wp2_with fail
            refine HQD.out.mono ?_
            rintro e v2 ⟨rfl, hb2⟩
            have HB2 := Lib.hid (HB.out.trans (hb2.mono HB.out.size))
            have HTH2 := Lib.hid (there_below HTH.out hb2 HLT.out)
            have HLT2 := Lib.hid (Nat.lt_of_lt_of_le HLT.out hb2.size)
            clear hb2
            go_wp2
            go_roundw
            case rel => exact ⟨qj, qb, by omega, rfl, rfl, HN.out, HB2.out, HTH2.out, HLT2.out⟩
            case measure => simp [intOf]; omega
          | false =>
            rw [hq] at HQT2
            by_cases h91 : r = 91
            · have HN := Lib.hid (HJ.out.trans (H3.out h91))
              subst h91
              clear H1 H2 H3 H4 HJ HQD HQT h62 hq
              go_wp2_with fail
              refine (HQT2 _).out.mono ?_
              rintro e wx ⟨rfl, rfl⟩
              go_wp2_with fail
              refine HSB.out.mono ?_
              rintro e v2 ⟨rfl, hb2⟩
              have HB2 := Lib.hid (HB.out.trans (hb2.mono HB.out.size))
              have HTH2 := Lib.hid (there_below HTH.out hb2 HLT.out)
              have HLT2 := Lib.hid (Nat.lt_of_lt_of_le HLT.out hb2.size)
              clear hb2
              go_wp2
              go_roundw
              case rel => exact ⟨sj, sb, by omega, rfl, rfl, HN.out, HB2.out, HTH2.out, HLT2.out⟩
              case measure => simp [intOf]; omega
            · have HN := Lib.hid (HJ.out.trans (H4.out h62 hq h91))
              have h91b : (r == 91) = false := by simpa using h91
              clear H1 H2 H3 H4 HJ HQD HSB HQT h62 hq h91
              go_wp2_with fail
              refine (HQT2 _).out.mono ?_
              rintro e wx ⟨rfl, rfl⟩
              go_wp2
              go_roundw
              case rel => exact ⟨j + 1, true, by omega, by go_num, rfl, HN.out, HB.out, HTH.out, HLT.out⟩
              case measure => simp [intOf]; omega
      | false =>
        have HE : Hid (docTF l k = (7, l.length, false)) := by rw [Hid, HTT.out, HJ.out.trans (docGo_end l j false (by simp))]
        clear HJ HTT
        have HL9 := Lib.hid (load_struct (P := Tryz.prog) (T := 211) wr w.heap.size [.int .i64 7, .int .i64 k, .int .i64 (l.length), .bool false] HTH.out (by kernel_rfl) Tryz.underlying211 rfl)
        have HB9 := Lib.hid (below_setCells2 HB.out w.heap.size (Nat.le_refl _) [.int .i64 7, .int .i64 k, .int .i64 (l.length), .bool false] 0)
        obtain ⟨⟨z0, hz0⟩, hf0⟩ := there_cell HTH.out 0 (by decide)
        obtain ⟨⟨z1, hz1⟩, hf1⟩ := there_cell HTH.out 1 (by decide)
        obtain ⟨⟨z2, hz2⟩, hf2⟩ := there_cell HTH.out 2 (by decide)
        obtain ⟨⟨z3, hz3⟩, hf3⟩ := there_cell HTH.out 3 (by decide)
        go_wp2
        refine bodyPost_ret (results_cell1 rfl _ rfl HL9.out) rfl ?_
        rw [HE.out]
        exact ⟨by simp [tokV], HB9.out⟩
    · have hji : ¬ (j : Int) < (l.length : Int) := by omega
      have HE : Hid (docTF l k = (7, l.length, false)) := by rw [Hid, HTT.out, HJ.out.trans (docGo_end l j ok (fun h => hlt h.1))]
      clear HJ HTT
      have HL9 := Lib.hid (load_struct (P := Tryz.prog) (T := 211) wr w.heap.size [.int .i64 7, .int .i64 k, .int .i64 (l.length), .bool false] HTH.out (by kernel_rfl) Tryz.underlying211 rfl)
      have HB9 := Lib.hid (below_setCells2 HB.out w.heap.size (Nat.le_refl _) [.int .i64 7, .int .i64 k, .int .i64 (l.length), .bool false] 0)
      obtain ⟨⟨z0, hz0⟩, hf0⟩ := there_cell HTH.out 0 (by decide)
      obtain ⟨⟨z1, hz1⟩, hf1⟩ := there_cell HTH.out 1 (by decide)
      obtain ⟨⟨z2, hz2⟩, hf2⟩ := there_cell HTH.out 2 (by decide)
      obtain ⟨⟨z3, hz3⟩, hf3⟩ := there_cell HTH.out 3 (by decide)
      go_wp2
      refine bodyPost_ret (results_cell1 rfl _ rfl HL9.out) rfl ?_
      rw [HE.out]
      exact ⟨by simp [tokV], HB9.out⟩
end Go.Proofs.YtcmjijpofkoogaaGreat
namespace Go.Proofs.YtcmjijpofkoogaaGreat
open Go.RowKit Go.Lib
end Go.Proofs.YtcmjijpofkoogaaGreat
namespace Go.Proofs.YtcmjijpofkoogaaGreat
open Go.RowKit Go.Lib
set_option maxHeartbeats 2000000 in
set_option maxRecDepth 100000 in
theorem NextAmp_any (S : Nat → Prop) (A : Option Addr) (n c : Nat) (l : List Int) (k : Nat) (w : World) (hr : Rd w S 1 A n c (rc l)) (h38 : l[k]? = some 38) (hl9 : l.length ≤ 1000000000) :
    Calls Tryz.prog 112 #[.slice A n c, .int .i64 k] w fun e w' => e = .returned (.tuple #[tokV (refF l k) k, .bool true]) ∧ Below w.heap.size w w' := by
  obtain rfl := hr.rlen
  have hle := hr.le
  have hmx : c ≤ 9223372036854775807 := hr.max
  obtain ⟨hk, h38⟩ := List.getElem?_eq_some_iff.1 h38
  obtain ⟨b, o, rfl, hc0⟩ := hr.rune hk
  rw [h38] at hc0
  have hca := fun ob => cell_keep (ba w ob) hc0
  have hki : ¬ (k : Int) ≥ (l.length : Int) := by omega
  have HRF := fun W (h : Below w.heap.size w W) => Lib.hid (Ref_any S _ _ c l k W (hr.below h) hk hl9)
  clear hr h38
  generalize refF l k = t at HRF ⊢
  obtain ⟨kd, to, wh⟩ := t
  have HRF : ∀ W, Below w.heap.size w W → Hid (Calls Tryz.prog 168 #[.slice (some ⟨b, o, none⟩) l.length c, .int .i64 k] W fun e w' => e = .returned (.agg #[.int .i64 kd, .int .i64 k, .int .i64 to, .bool wh]) ∧ Below W.heap.size W w') := HRF
  go_enter Tryz.func112, Tryz.ntmps112
  go_wp2_with fail
  have HTH0 := Lib.hid (there_lit w #[.int .i64 0, .int .i64 0, .int .i64 0, .bool false] 211)
  have HB0 := Lib.hid (ba w (.cells #[.int .i64 0, .int .i64 0, .int .i64 0, .bool false] 211))
  have HSZ : Hid (w.heap.size < (w.alloc (.cells #[.int .i64 0, .int .i64 0, .int .i64 0, .bool false] 211)).heap.size) := by simp [Hid]
  generalize w.alloc (.cells #[.int .i64 0, .int .i64 0, .int .i64 0, .bool false] 211) = W0 at HTH0 HB0 HSZ
  refine (HRF _ HB0.out).out.mono ?_
  rintro e w1 ⟨rfl, hb1⟩
  have HB1 := Lib.hid (HB0.out.trans (hb1.mono HB0.out.size))
  have hth := there_below HTH0.out hb1 HSZ.out
  have HL9 := Lib.hid (load_struct (P := Tryz.prog) (T := 211) w1 w.heap.size [.int .i64 kd, .int .i64 k, .int .i64 to, .bool wh] hth (by kernel_rfl) Tryz.underlying211 rfl)
  have HB9 := Lib.hid (below_setCells2 HB1.out w.heap.size (Nat.le_refl _) [.int .i64 kd, .int .i64 k, .int .i64 to, .bool wh] 0)
  obtain ⟨⟨z0, hz0⟩, hf0⟩ := there_cell hth 0 (by decide)
  obtain ⟨⟨z1, hz1⟩, hf1⟩ := there_cell hth 1 (by decide)
  obtain ⟨⟨z2, hz2⟩, hf2⟩ := there_cell hth 2 (by decide)
  obtain ⟨⟨z3, hz3⟩, hf3⟩ := there_cell hth 3 (by decide)
  clear hth hb1 HTH0 HRF
  go_wp2
  refine bodyPost_ret (results_cell2 rfl _ rfl HL9.out) rfl ?_
  exact ⟨rfl, HB9.out⟩
end Go.Proofs.YtcmjijpofkoogaaGreat
namespace Go.Proofs.YtcmjijpofkoogaaGreat
open Go.RowKit Go.Lib
theorem load_lit {P : Program} {T : TypeId} {d : TypeDesc} (w : World) (vs : List Value) (hi : (P.info? T).map (·.size) = some vs.length) (hu : P.underlying T = some d) (hd : d.isRow = true) :
    (loadVar T ⟨w.heap.size, 0, none⟩).run P (w.alloc (.cells vs.toArray T)) = .ok (.agg vs.toArray) (w.alloc (.cells vs.toArray T)) :=
  run_loadVar_mid (P := P) _ w.heap.size 0 T vs d (fun j v hv => by
    rw [World.cell?_alloc_at _ _ _ _ rfl, Nat.zero_add]
    simpa using hv) hu hd hi
theorem starts_fits2 (l : List Int) (k : Nat) (bs : List UInt8) (hk : k ≤ l.length) (h : startsF l k bs = true) : k + bs.length ≤ l.length := by
  by_cases hn : l.length < k + bs.length
  · rw [starts_short l k bs hn hk] at h; cases h
  · omega
set_option maxHeartbeats 4000000 in
set_option maxRecDepth 100000 in
theorem Markup_any (S : Nat → Prop) (A : Option Addr) (n c : Nat) (l : List Int) (k : Nat) (w : World) (hr : Rd w S 1 A n c (rc l)) (hk : k < l.length) (hl9 : l.length ≤ 1000000000) :
    Calls Tryz.prog 167 #[.slice A n c, .int .i64 k] w fun e w' => e = .returned (tokV (markupF l k) k) ∧ Below w.heap.size w w' := by
  obtain rfl := hr.rlen
  have hle := hr.le
  have hmx : c ≤ 9223372036854775807 := hr.max
  have HR := Lib.hid hr
  have HSa : ∀ W, Below w.heap.size w W → Hid (Calls Tryz.prog 22 #[.slice A l.length c, .int .i64 k, .string ⟨#[60, 33, 45, 45]⟩] W fun e w' => e = .returned (.bool (startsF l k [60, 33, 45, 45])) ∧ Below W.heap.size W w') :=
    fun W h => Starts_any S A l.length c l k ⟨#[60, 33, 45, 45]⟩ W (HR.out.below h) (by omega) hl9 (by decide)
  have HSb : ∀ W, Below w.heap.size w W → Hid (Calls Tryz.prog 22 #[.slice A l.length c, .int .i64 k, .string ⟨#[60, 33, 91, 67, 68, 65, 84, 65, 91]⟩] W fun e w' => e = .returned (.bool (startsF l k [60, 33, 91, 67, 68, 65, 84, 65, 91])) ∧ Below W.heap.size W w') :=
    fun W h => Starts_any S A l.length c l k ⟨#[60, 33, 91, 67, 68, 65, 84, 65, 91]⟩ W (HR.out.below h) (by omega) hl9 (by decide)
  have HSc : ∀ W, Below w.heap.size w W → Hid (Calls Tryz.prog 22 #[.slice A l.length c, .int .i64 k, .string ⟨#[60, 63]⟩] W fun e w' => e = .returned (.bool (startsF l k [60, 63])) ∧ Below W.heap.size W w') :=
    fun W h => Starts_any S A l.length c l k ⟨#[60, 63]⟩ W (HR.out.below h) (by omega) hl9 (by decide)
  have HSd : ∀ W, Below w.heap.size w W → Hid (Calls Tryz.prog 22 #[.slice A l.length c, .int .i64 k, .string ⟨#[60, 33, 68, 79, 67, 84, 89, 80, 69]⟩] W fun e w' => e = .returned (.bool (startsF l k [60, 33, 68, 79, 67, 84, 89, 80, 69])) ∧ Below W.heap.size W w') :=
    fun W h => Starts_any S A l.length c l k ⟨#[60, 33, 68, 79, 67, 84, 89, 80, 69]⟩ W (HR.out.below h) (by omega) hl9 (by decide)
  have HSe : ∀ W, Below w.heap.size w W → Hid (Calls Tryz.prog 22 #[.slice A l.length c, .int .i64 k, .string ⟨#[60, 47]⟩] W fun e w' => e = .returned (.bool (startsF l k [60, 47])) ∧ Below W.heap.size W w') :=
    fun W h => Starts_any S A l.length c l k ⟨#[60, 47]⟩ W (HR.out.below h) (by omega) hl9 (by decide)
  have HUa : ∀ W, Below w.heap.size w W → Hid (Calls Tryz.prog 232 #[.slice A l.length c, .int .i64 4, .int .i64 k, .int .i64 4, .string ⟨#[45, 45, 62]⟩] W fun e w' => e = .returned (.agg #[.int .i64 (upToF l 4 k 4 [45, 45, 62]).1, .int .i64 k, .int .i64 (upToF l 4 k 4 [45, 45, 62]).2.1, .bool (upToF l 4 k 4 [45, 45, 62]).2.2]) ∧ Below W.heap.size W w') :=
    fun W h => UpTo_any S A l.length c l 4 k 4 ⟨#[45, 45, 62]⟩ W (HR.out.below h) (by omega) (by decide) hl9 (by decide)
  have HUb : ∀ W, Below w.heap.size w W → Hid (Calls Tryz.prog 232 #[.slice A l.length c, .int .i64 6, .int .i64 k, .int .i64 9, .string ⟨#[93, 93, 62]⟩] W fun e w' => e = .returned (.agg #[.int .i64 (upToF l 6 k 9 [93, 93, 62]).1, .int .i64 k, .int .i64 (upToF l 6 k 9 [93, 93, 62]).2.1, .bool (upToF l 6 k 9 [93, 93, 62]).2.2]) ∧ Below W.heap.size W w') :=
    fun W h => UpTo_any S A l.length c l 6 k 9 ⟨#[93, 93, 62]⟩ W (HR.out.below h) (by omega) (by decide) hl9 (by decide)
  have HUc : ∀ W, Below w.heap.size w W → Hid (Calls Tryz.prog 232 #[.slice A l.length c, .int .i64 5, .int .i64 k, .int .i64 2, .string ⟨#[63, 62]⟩] W fun e w' => e = .returned (.agg #[.int .i64 (upToF l 5 k 2 [63, 62]).1, .int .i64 k, .int .i64 (upToF l 5 k 2 [63, 62]).2.1, .bool (upToF l 5 k 2 [63, 62]).2.2]) ∧ Below W.heap.size W w') :=
    fun W h => UpTo_any S A l.length c l 5 k 2 ⟨#[63, 62]⟩ W (HR.out.below h) (by omega) (by decide) hl9 (by decide)
  have HUd : startsF l k [60, 33, 68, 79, 67, 84, 89, 80, 69] = true → ∀ W, Below w.heap.size w W → Hid (Calls Tryz.prog 233 #[.slice A l.length c, .int .i64 k] W fun e w' => e = .returned (.agg #[.int .i64 (docTF l k).1, .int .i64 k, .int .i64 (docTF l k).2.1, .bool (docTF l k).2.2]) ∧ Below W.heap.size W w') :=
    fun hs W h => Doctypes_any S A l.length c l k W (HR.out.below h) (by have := starts_fits2 l k _ (by omega) hs; simpa using this) hl9
  have HUe : startsF l k [60, 47] = true → ∀ W, Below w.heap.size w W → Hid (Calls Tryz.prog 234 #[.slice A l.length c, .int .i64 k] W fun e w' => e = .returned (.agg #[.int .i64 (endTF l k).1, .int .i64 k, .int .i64 (endTF l k).2.1, .bool (endTF l k).2.2]) ∧ Below W.heap.size W w') :=
    fun hs W h => EndT_any S A l.length c l k W (HR.out.below h) (by have := starts_fits2 l k _ (by omega) hs; simpa using this) hl9
  have HUf : ∀ W, Below w.heap.size w W → Hid (Calls Tryz.prog 235 #[.slice A l.length c, .int .i64 k] W fun e w' => e = .returned (.agg #[.int .i64 (startTF l k).1, .int .i64 k, .int .i64 (startTF l k).2.1, .bool (startTF l k).2.2]) ∧ Below W.heap.size W w') :=
    fun W h => StartT_any S A l.length c l k W (HR.out.below h) hk hl9
  have HLD : ∀ W, Below w.heap.size w W → Hid (Calls Tryz.prog 102 #[.slice A l.length c, .int .i64 ((k : Int) + 1)] W fun e w' => e = .returned (.int .i64 (leadF l (k + 1))) ∧ Below W.heap.size W w') := fun W h => by
    rw [show ((k : Int) + 1) = ((k + 1 : Nat) : Int) by omega]
    exact NLead_any S A l.length c l (k + 1) W (HR.out.below h) (by omega)
  have HT : Hid (markupF l k = if startsF l k [60, 33, 45, 45] = true then upToF l 4 k 4 [45, 45, 62]
    else if startsF l k [60, 33, 91, 67, 68, 65, 84, 65, 91] = true then upToF l 6 k 9 [93, 93, 62]
    else if startsF l k [60, 63] = true then upToF l 5 k 2 [63, 62]
    else if startsF l k [60, 33, 68, 79, 67, 84, 89, 80, 69] = true then docTF l k
    else if startsF l k [60, 47] = true then endTF l k
    else if 0 < leadF l (k + 1) then startTF l k
    else (11, k + 1, false)) := rfl
  clear hr
  generalize markupF l k = t at HT ⊢
  generalize startsF l k [60, 33, 45, 45] = sa at HSa HT
  generalize startsF l k [60, 33, 91, 67, 68, 65, 84, 65, 91] = sb at HSb HT
  generalize startsF l k [60, 63] = sc at HSc HT
  generalize startsF l k [60, 33, 68, 79, 67, 84, 89, 80, 69] = sd at HSd HT HUd
  generalize startsF l k [60, 47] = se at HSe HT HUe
  generalize upToF l 4 k 4 [45, 45, 62] = ua at HUa HT
  generalize upToF l 6 k 9 [93, 93, 62] = ub at HUb HT
  generalize upToF l 5 k 2 [63, 62] = uc at HUc HT
  generalize docTF l k = ud at HUd HT
  generalize endTF l k = ue at HUe HT
  generalize startTF l k = uf at HUf HT
  generalize leadF l (k + 1) = ld at HLD HT
  obtain ⟨kka, tta, wwa⟩ := ua
  obtain ⟨kkb, ttb, wwb⟩ := ub
  obtain ⟨kkc, ttc, wwc⟩ := uc
  obtain ⟨kkd, ttd, wwd⟩ := ud
  obtain ⟨kke, tte, wwe⟩ := ue
  obtain ⟨kkf, ttf, wwf⟩ := uf
  go_enter Tryz.func167, Tryz.ntmps167
  go_wp2_with fail
  have HTH0 := Lib.hid (there_lit w #[.int .i64 0, .int .i64 0, .int .i64 0, .bool false] 211)
  have HB0 := Lib.hid (ba w (.cells #[.int .i64 0, .int .i64 0, .int .i64 0, .bool false] 211))
  have HSZ : Hid (w.heap.size < (w.alloc (.cells #[.int .i64 0, .int .i64 0, .int .i64 0, .bool false] 211)).heap.size) := by simp [Hid]
  generalize w.alloc (.cells #[.int .i64 0, .int .i64 0, .int .i64 0, .bool false] 211) = W0 at HTH0 HB0 HSZ
  have HTH0 : Hid (W0.there w.heap.size 0 4) := HTH0.out
  refine (HSa _ HB0.out).out.mono ?_
  rintro e va ⟨rfl, hb⟩
  have HBa := Lib.hid (HB0.out.trans (hb.mono HB0.out.size))
  have HTHa : Hid (va.there w.heap.size 0 4) := there_below HTH0.out hb HSZ.out
  have HLTa : Hid (w.heap.size < va.heap.size) := Nat.lt_of_lt_of_le HSZ.out hb.size
  clear hb HSa
  cases sa with
  | true =>
    have HE : Hid (t = (kka, tta, wwa)) := HT.out
    clear HT
    go_wp2_with fail
    refine (HUa _ HBa.out).out.mono ?_
    rintro e xa ⟨rfl, hb⟩
    have HBx := Lib.hid (HBa.out.trans (hb.mono HBa.out.size))
    have HTHx : Hid (xa.there w.heap.size 0 4) := there_below HTHa.out hb HLTa.out
    clear hb
    have HL9 := Lib.hid (load_struct (P := Tryz.prog) (T := 211) xa w.heap.size [.int .i64 kka, .int .i64 k, .int .i64 (tta), .bool wwa] HTHx.out (by kernel_rfl) Tryz.underlying211 rfl)
    have HB9 := Lib.hid (below_setCells2 HBx.out w.heap.size (Nat.le_refl _) [.int .i64 kka, .int .i64 k, .int .i64 (tta), .bool wwa] 0)
    obtain ⟨⟨z0, hz0⟩, hf0⟩ := there_cell HTHx.out 0 (by decide)
    obtain ⟨⟨z1, hz1⟩, hf1⟩ := there_cell HTHx.out 1 (by decide)
    obtain ⟨⟨z2, hz2⟩, hf2⟩ := there_cell HTHx.out 2 (by decide)
    obtain ⟨⟨z3, hz3⟩, hf3⟩ := there_cell HTHx.out 3 (by decide)
    go_wp2
    refine bodyPost_ret (results_cell1 rfl _ rfl HL9.out) rfl ?_
    rw [HE.out]
    exact ⟨rfl, HB9.out⟩
  | false =>
    go_wp2_with fail
    refine (HSb _ HBa.out).out.mono ?_
    rintro e vb ⟨rfl, hb⟩
    have HBb := Lib.hid (HBa.out.trans (hb.mono HBa.out.size))
    have HTHb : Hid (vb.there w.heap.size 0 4) := there_below HTHa.out hb HLTa.out
    have HLTb : Hid (w.heap.size < vb.heap.size) := Nat.lt_of_lt_of_le HLTa.out hb.size
    clear hb HSb
    cases sb with
    | true =>
      have HE : Hid (t = (kkb, ttb, wwb)) := HT.out
      clear HT
      go_wp2_with fail
      refine (HUb _ HBb.out).out.mono ?_
      rintro e xb ⟨rfl, hb⟩
      have HBx := Lib.hid (HBb.out.trans (hb.mono HBb.out.size))
      have HTHx : Hid (xb.there w.heap.size 0 4) := there_below HTHb.out hb HLTb.out
      clear hb
      have HL9 := Lib.hid (load_struct (P := Tryz.prog) (T := 211) xb w.heap.size [.int .i64 kkb, .int .i64 k, .int .i64 (ttb), .bool wwb] HTHx.out (by kernel_rfl) Tryz.underlying211 rfl)
      have HB9 := Lib.hid (below_setCells2 HBx.out w.heap.size (Nat.le_refl _) [.int .i64 kkb, .int .i64 k, .int .i64 (ttb), .bool wwb] 0)
      obtain ⟨⟨z0, hz0⟩, hf0⟩ := there_cell HTHx.out 0 (by decide)
      obtain ⟨⟨z1, hz1⟩, hf1⟩ := there_cell HTHx.out 1 (by decide)
      obtain ⟨⟨z2, hz2⟩, hf2⟩ := there_cell HTHx.out 2 (by decide)
      obtain ⟨⟨z3, hz3⟩, hf3⟩ := there_cell HTHx.out 3 (by decide)
      go_wp2
      refine bodyPost_ret (results_cell1 rfl _ rfl HL9.out) rfl ?_
      rw [HE.out]
      exact ⟨rfl, HB9.out⟩
    | false =>
      go_wp2_with fail
      refine (HSc _ HBb.out).out.mono ?_
      rintro e vc ⟨rfl, hb⟩
      have HBc := Lib.hid (HBb.out.trans (hb.mono HBb.out.size))
      have HTHc : Hid (vc.there w.heap.size 0 4) := there_below HTHb.out hb HLTb.out
      have HLTc : Hid (w.heap.size < vc.heap.size) := Nat.lt_of_lt_of_le HLTb.out hb.size
      clear hb HSc
      cases sc with
      | true =>
        have HE : Hid (t = (kkc, ttc, wwc)) := HT.out
        clear HT
        go_wp2_with fail
        refine (HUc _ HBc.out).out.mono ?_
        rintro e xc ⟨rfl, hb⟩
        have HBx := Lib.hid (HBc.out.trans (hb.mono HBc.out.size))
        have HTHx : Hid (xc.there w.heap.size 0 4) := there_below HTHc.out hb HLTc.out
        clear hb
        have HL9 := Lib.hid (load_struct (P := Tryz.prog) (T := 211) xc w.heap.size [.int .i64 kkc, .int .i64 k, .int .i64 (ttc), .bool wwc] HTHx.out (by kernel_rfl) Tryz.underlying211 rfl)
        have HB9 := Lib.hid (below_setCells2 HBx.out w.heap.size (Nat.le_refl _) [.int .i64 kkc, .int .i64 k, .int .i64 (ttc), .bool wwc] 0)
        obtain ⟨⟨z0, hz0⟩, hf0⟩ := there_cell HTHx.out 0 (by decide)
        obtain ⟨⟨z1, hz1⟩, hf1⟩ := there_cell HTHx.out 1 (by decide)
        obtain ⟨⟨z2, hz2⟩, hf2⟩ := there_cell HTHx.out 2 (by decide)
        obtain ⟨⟨z3, hz3⟩, hf3⟩ := there_cell HTHx.out 3 (by decide)
        go_wp2
        refine bodyPost_ret (results_cell1 rfl _ rfl HL9.out) rfl ?_
        rw [HE.out]
        exact ⟨rfl, HB9.out⟩
      | false =>
        go_wp2_with fail
        refine (HSd _ HBc.out).out.mono ?_
        rintro e vd ⟨rfl, hb⟩
        have HBd := Lib.hid (HBc.out.trans (hb.mono HBc.out.size))
        have HTHd : Hid (vd.there w.heap.size 0 4) := there_below HTHc.out hb HLTc.out
        have HLTd : Hid (w.heap.size < vd.heap.size) := Nat.lt_of_lt_of_le HLTc.out hb.size
        clear hb HSd
        cases sd with
        | true =>
          have HE : Hid (t = (kkd, ttd, wwd)) := HT.out
          clear HT
          go_wp2_with fail
          refine (HUd (by first | trivial | rfl) _ HBd.out).out.mono ?_
          rintro e xd ⟨rfl, hb⟩
          have HBx := Lib.hid (HBd.out.trans (hb.mono HBd.out.size))
          have HTHx : Hid (xd.there w.heap.size 0 4) := there_below HTHd.out hb HLTd.out
          clear hb
          have HL9 := Lib.hid (load_struct (P := Tryz.prog) (T := 211) xd w.heap.size [.int .i64 kkd, .int .i64 k, .int .i64 (ttd), .bool wwd] HTHx.out (by kernel_rfl) Tryz.underlying211 rfl)
          have HB9 := Lib.hid (below_setCells2 HBx.out w.heap.size (Nat.le_refl _) [.int .i64 kkd, .int .i64 k, .int .i64 (ttd), .bool wwd] 0)
          obtain ⟨⟨z0, hz0⟩, hf0⟩ := there_cell HTHx.out 0 (by decide)
          obtain ⟨⟨z1, hz1⟩, hf1⟩ := there_cell HTHx.out 1 (by decide)
          obtain ⟨⟨z2, hz2⟩, hf2⟩ := there_cell HTHx.out 2 (by decide)
          obtain ⟨⟨z3, hz3⟩, hf3⟩ := there_cell HTHx.out 3 (by decide)
          go_wp2
          refine bodyPost_ret (results_cell1 rfl _ rfl HL9.out) rfl ?_
          rw [HE.out]
          exact ⟨rfl, HB9.out⟩
        | false =>
          go_wp2_with fail
          refine (HSe _ HBd.out).out.mono ?_
          rintro e ve ⟨rfl, hb⟩
          have HBe := Lib.hid (HBd.out.trans (hb.mono HBd.out.size))
          have HTHe : Hid (ve.there w.heap.size 0 4) := there_below HTHd.out hb HLTd.out
          have HLTe : Hid (w.heap.size < ve.heap.size) := Nat.lt_of_lt_of_le HLTd.out hb.size
          clear hb HSe
          cases se with
          | true =>
            have HE : Hid (t = (kke, tte, wwe)) := HT.out
            clear HT
            go_wp2_with fail
            refine (HUe (by first | trivial | rfl) _ HBe.out).out.mono ?_
            rintro e xe ⟨rfl, hb⟩
            have HBx := Lib.hid (HBe.out.trans (hb.mono HBe.out.size))
            have HTHx : Hid (xe.there w.heap.size 0 4) := there_below HTHe.out hb HLTe.out
            clear hb
            have HL9 := Lib.hid (load_struct (P := Tryz.prog) (T := 211) xe w.heap.size [.int .i64 kke, .int .i64 k, .int .i64 (tte), .bool wwe] HTHx.out (by kernel_rfl) Tryz.underlying211 rfl)
            have HB9 := Lib.hid (below_setCells2 HBx.out w.heap.size (Nat.le_refl _) [.int .i64 kke, .int .i64 k, .int .i64 (tte), .bool wwe] 0)
            obtain ⟨⟨z0, hz0⟩, hf0⟩ := there_cell HTHx.out 0 (by decide)
            obtain ⟨⟨z1, hz1⟩, hf1⟩ := there_cell HTHx.out 1 (by decide)
            obtain ⟨⟨z2, hz2⟩, hf2⟩ := there_cell HTHx.out 2 (by decide)
            obtain ⟨⟨z3, hz3⟩, hf3⟩ := there_cell HTHx.out 3 (by decide)
            go_wp2
            refine bodyPost_ret (results_cell1 rfl _ rfl HL9.out) rfl ?_
            rw [HE.out]
            exact ⟨rfl, HB9.out⟩
          | false =>
            go_wp2_with fail
            refine (HLD _ HBe.out).out.mono ?_
            rintro e vf ⟨rfl, hb⟩
            have HBf := Lib.hid (HBe.out.trans (hb.mono HBe.out.size))
            have HTHf : Hid (vf.there w.heap.size 0 4) := there_below HTHe.out hb HLTe.out
            have HLTf : Hid (w.heap.size < vf.heap.size) := Nat.lt_of_lt_of_le HLTe.out hb.size
            clear hb HLD
            by_cases hl0 : 0 < ld
            · have hl0i : (ld : Int) > 0 := by omega
              have HE : Hid (t = (kkf, ttf, wwf)) := by rw [Hid, HT.out]; simp [hl0]
              clear HT
              go_wp2_with fail
              refine (HUf _ HBf.out).out.mono ?_
              rintro e xf ⟨rfl, hb⟩
              have HBx := Lib.hid (HBf.out.trans (hb.mono HBf.out.size))
              have HTHx : Hid (xf.there w.heap.size 0 4) := there_below HTHf.out hb HLTf.out
              clear hb
              have HL9 := Lib.hid (load_struct (P := Tryz.prog) (T := 211) xf w.heap.size [.int .i64 kkf, .int .i64 k, .int .i64 (ttf), .bool wwf] HTHx.out (by kernel_rfl) Tryz.underlying211 rfl)
              have HB9 := Lib.hid (below_setCells2 HBx.out w.heap.size (Nat.le_refl _) [.int .i64 kkf, .int .i64 k, .int .i64 (ttf), .bool wwf] 0)
              obtain ⟨⟨z0, hz0⟩, hf0⟩ := there_cell HTHx.out 0 (by decide)
              obtain ⟨⟨z1, hz1⟩, hf1⟩ := there_cell HTHx.out 1 (by decide)
              obtain ⟨⟨z2, hz2⟩, hf2⟩ := there_cell HTHx.out 2 (by decide)
              obtain ⟨⟨z3, hz3⟩, hf3⟩ := there_cell HTHx.out 3 (by decide)
              go_wp2
              refine bodyPost_ret (results_cell1 rfl _ rfl HL9.out) rfl ?_
              rw [HE.out]
              exact ⟨rfl, HB9.out⟩
            · have hl0i : ¬ (ld : Int) > 0 := by omega
              have HE : Hid (t = (11, k + 1, false)) := by rw [Hid, HT.out]; simp [hl0]
              clear HT
              have HL9 := Lib.hid (load_struct (P := Tryz.prog) (T := 211) vf w.heap.size [.int .i64 11, .int .i64 k, .int .i64 ((k : Int) + 1), .bool false] HTHf.out (by kernel_rfl) Tryz.underlying211 rfl)
              have HB9 := Lib.hid (below_setCells2 HBf.out w.heap.size (Nat.le_refl _) [.int .i64 11, .int .i64 k, .int .i64 ((k : Int) + 1), .bool false] 0)
              obtain ⟨⟨z0, hz0⟩, hf0⟩ := there_cell HTHf.out 0 (by decide)
              obtain ⟨⟨z1, hz1⟩, hf1⟩ := there_cell HTHf.out 1 (by decide)
              obtain ⟨⟨z2, hz2⟩, hf2⟩ := there_cell HTHf.out 2 (by decide)
              obtain ⟨⟨z3, hz3⟩, hf3⟩ := there_cell HTHf.out 3 (by decide)
              go_wp2
              refine bodyPost_ret (results_cell1 rfl _ rfl HL9.out) rfl ?_
              rw [HE.out]
              exact ⟨by simp [tokV], HB9.out⟩
set_option maxHeartbeats 400000 in
set_option maxRecDepth 100000 in
theorem LPlain_any (r : Int) (w : World) : Calls Tryz.prog 169 #[.int .i32 r] w fun e w' => e = .returned (.bool (isPlain r)) ∧ w = w' := by
  by_cases h1 : r = 60
  · subst h1
    go_enter Tryz.func169, Tryz.ntmps169
    go_wp2
    go_ret
    exact ⟨rfl, rfl⟩
  · have h1b : (r != 60) = true := by simpa using h1
    by_cases h2 : r = 38
    · subst h2
      clear h1
      go_enter Tryz.func169, Tryz.ntmps169
      go_wp2
      go_ret
      exact ⟨rfl, rfl⟩
    · have h2b : (r != 38) = true := by simpa using h2
      have HE : Hid (isPlain r = (r != -1)) := by rw [Hid, isPlain, h1b, h2b, Bool.true_and, Bool.true_and]
      clear h1 h2
      go_enter Tryz.func169, Tryz.ntmps169
      go_wp2
      go_ret
      exact ⟨ret_bool HE.out.symm, rfl⟩
theorem LPlain_ok (w : World) : PredOk Tryz.prog 169 #[] isPlain w := fun W r _ => (LPlain_any r W).mono fun _ _ ⟨h1, h2⟩ => ⟨h1, h2 ▸ Below.refl _ _⟩
theorem eg_LPlain : ∀ args w, (callFunc 169 args).run Tryz.prog w = .ok (.enter 169 args) w := enters_of Tryz.func169 (by kernel_rfl) rfl
set_option maxHeartbeats 4000000 in
set_option maxRecDepth 100000 in
theorem NextT_any (S : Nat → Prop) (A : Option Addr) (n c : Nat) (l : List Int) (k : Nat) (w : World) (hr : Rd w S 1 A n c (rc l)) (hk : k < l.length) (hl9 : l.length ≤ 1000000000) :
    Calls Tryz.prog 112 #[.slice A n c, .int .i64 k] w fun e w' => e = .returned (.tuple #[tokV (nextTF l k) k, .bool true]) ∧ Below w.heap.size w w' := by
  obtain rfl := hr.rlen
  have hle := hr.le
  have hmx : c ≤ 9223372036854775807 := hr.max
  by_cases h38 : l[k] = 38
  · have HE : nextTF l k = refF l k := by rw [nextTF, getD_at hk, h38]; rfl
    rw [HE]
    exact NextAmp_any S A _ c l k w hr (by rw [List.getElem?_eq_getElem hk, h38]) hl9
  · obtain ⟨b, o, rfl, hc0⟩ := hr.rune hk
    have hca := fun ob => cell_keep (ba w ob) hc0
    have hki : ¬ (k : Int) ≥ (l.length : Int) := by omega
    have hkj : (k : Int) < (l.length : Int) := by omega
    have HMK := fun W (h : Below w.heap.size w W) => Lib.hid (Markup_any S _ _ c l k W (hr.below h) hk hl9)
    have HMK : ∀ W, Below w.heap.size w W → Hid (Calls Tryz.prog 167 #[.slice (some ⟨b, o, none⟩) l.length c, .int .i64 k] W fun e w' => e = .returned (.agg #[.int .i64 (markupF l k).1, .int .i64 k, .int .i64 (markupF l k).2.1, .bool (markupF l k).2.2]) ∧ Below W.heap.size W w') := HMK
    have HRN := fun W (h : Below w.heap.size w W) => (Run_any S _ l.length c l k _ #[] isPlain W eg_LPlain (hr.below h) (LPlain_ok W))
    have hrn : runF isPlain l k = ((l.drop k).takeWhile isPlain).length := by rw [runF, if_neg (by omega), Int.toNat_natCast]
    rw [hrn] at HRN
    have HRN := fun W h => Lib.hid (HRN W h)
    have hrl := (List.takeWhile_sublist isPlain (l := l.drop k)).length_le
    rw [List.length_drop] at hrl
    have HT : Hid (nextTF l k = if l[k] = 60 then markupF l k else if l[k] = 38 then refF l k else if l[k] = -1 then (11, k + 1, false) else (1, k + ((l.drop k).takeWhile isPlain).length, true)) := by rw [Hid, nextTF, getD_at hk]
    clear hr hrn
    generalize nextTF l k = t at HT ⊢
    generalize markupF l k = mk at HMK HT
    generalize ((l.drop k).takeWhile isPlain).length = rn at HRN HT hrl
    obtain ⟨mka, mkb, mkc⟩ := mk
    generalize l[k] = r at hc0 hca HT h38
    have h38b : (r == 38) = false := by simpa using h38
    by_cases h60 : r = 60
    · have HE : Hid (t = (mka, mkb, mkc)) := by rw [Hid, HT.out, if_pos h60]
      subst h60
      clear HT h38 hc0 HRN
      go_enter Tryz.func112, Tryz.ntmps112
      go_wp2_with fail
      have HTH0 := Lib.hid (there_lit w #[.int .i64 0, .int .i64 0, .int .i64 0, .bool false] 211)
      have HB0 := Lib.hid (ba w (.cells #[.int .i64 0, .int .i64 0, .int .i64 0, .bool false] 211))
      have HSZ : Hid (w.heap.size < (w.alloc (.cells #[.int .i64 0, .int .i64 0, .int .i64 0, .bool false] 211)).heap.size) := by simp [Hid]
      generalize w.alloc (.cells #[.int .i64 0, .int .i64 0, .int .i64 0, .bool false] 211) = W0 at HTH0 HB0 HSZ
      refine (HMK _ HB0.out).out.mono ?_
      rintro e w1 ⟨rfl, hb1⟩
      have HB1 := Lib.hid (HB0.out.trans (hb1.mono HB0.out.size))
      have HTH1 : Hid (w1.there w.heap.size 0 4) := there_below HTH0.out hb1 HSZ.out
      clear hb1 HTH0 HSZ
      have HL9 := Lib.hid (load_struct (P := Tryz.prog) (T := 211) w1 w.heap.size [.int .i64 mka, .int .i64 k, .int .i64 (mkb), .bool mkc] HTH1.out (by kernel_rfl) Tryz.underlying211 rfl)
      have HB9 := Lib.hid (below_setCells2 HB1.out w.heap.size (Nat.le_refl _) [.int .i64 mka, .int .i64 k, .int .i64 (mkb), .bool mkc] 0)
      obtain ⟨⟨z0, hz0⟩, hf0⟩ := there_cell HTH1.out 0 (by decide)
      obtain ⟨⟨z1, hz1⟩, hf1⟩ := there_cell HTH1.out 1 (by decide)
      obtain ⟨⟨z2, hz2⟩, hf2⟩ := there_cell HTH1.out 2 (by decide)
      obtain ⟨⟨z3, hz3⟩, hf3⟩ := there_cell HTH1.out 3 (by decide)
      go_wp2
      refine bodyPost_ret (results_cell2 rfl _ rfl HL9.out) rfl ?_
      rw [HE.out]
      exact ⟨rfl, HB9.out⟩
    · have h60b : (r == 60) = false := by simpa using h60
      by_cases h1 : r = -1
      · have HE : Hid (t = (11, k + 1, false)) := by rw [Hid, HT.out, if_neg h60, if_neg h38, if_pos h1]
        subst h1
        clear HT h38 h60 hc0 HRN HMK
        have HL9 := Lib.hid (load_lit (P := Tryz.prog) (T := 211) w [.int .i64 11, .int .i64 k, .int .i64 ((k : Int) + 1), .bool false] (by kernel_rfl) Tryz.underlying211 rfl)
        have HB9 := Lib.hid (ba w (.cells #[.int .i64 11, .int .i64 k, .int .i64 ((k : Int) + 1), .bool false] 211))
        go_enter Tryz.func112, Tryz.ntmps112
        go_wp2
        refine bodyPost_ret (results_cell2 rfl _ rfl HL9.out) rfl ?_
        rw [HE.out]
        exact ⟨by simp [tokV], HB9.out⟩
      · have h1b : (r == -1) = false := by simpa using h1
        have HE : Hid (t = (1, k + rn, true)) := by rw [Hid, HT.out, if_neg h60, if_neg h38, if_neg h1]
        clear HT h38 h60 h1 hc0 HMK
        go_enter Tryz.func112, Tryz.ntmps112
        go_wp2_with fail
        have HTH0 := Lib.hid (there_lit w #[.int .i64 0, .int .i64 0, .int .i64 0, .bool false] 211)
        have HB0 := Lib.hid (ba w (.cells #[.int .i64 0, .int .i64 0, .int .i64 0, .bool false] 211))
        have HSZ : Hid (w.heap.size < (w.alloc (.cells #[.int .i64 0, .int .i64 0, .int .i64 0, .bool false] 211)).heap.size) := by simp [Hid]
        generalize w.alloc (.cells #[.int .i64 0, .int .i64 0, .int .i64 0, .bool false] 211) = W0 at HTH0 HB0 HSZ
        refine (HRN _ HB0.out).out.mono ?_
        rintro e w1 ⟨rfl, hb1⟩
        have HB1 := Lib.hid (HB0.out.trans (hb1.mono HB0.out.size))
        have HTH1 : Hid (w1.there w.heap.size 0 4) := there_below HTH0.out hb1 HSZ.out
        clear hb1 HTH0 HSZ
        have HL9 := Lib.hid (load_struct (P := Tryz.prog) (T := 211) w1 w.heap.size [.int .i64 1, .int .i64 k, .int .i64 ((k : Int) + (rn : Int)), .bool true] HTH1.out (by kernel_rfl) Tryz.underlying211 rfl)
        have HB9 := Lib.hid (below_setCells2 HB1.out w.heap.size (Nat.le_refl _) [.int .i64 1, .int .i64 k, .int .i64 ((k : Int) + (rn : Int)), .bool true] 0)
        obtain ⟨⟨z0, hz0⟩, hf0⟩ := there_cell HTH1.out 0 (by decide)
        obtain ⟨⟨z1, hz1⟩, hf1⟩ := there_cell HTH1.out 1 (by decide)
        obtain ⟨⟨z2, hz2⟩, hf2⟩ := there_cell HTH1.out 2 (by decide)
        obtain ⟨⟨z3, hz3⟩, hf3⟩ := there_cell HTH1.out 3 (by decide)
        go_wp2
        refine bodyPost_ret (results_cell2 rfl _ rfl HL9.out) rfl ?_
        rw [HE.out]
        exact ⟨by simp [tokV], HB9.out⟩
end Go.Proofs.YtcmjijpofkoogaaGreat
namespace Go.Proofs.YtcmjijpofkoogaaGreat
open Go.RowKit Go.Lib
theorem endGo_range (l : List Int) : ∀ (n k : Nat), l.length - k ≤ n → k ≤ l.length → k ≤ (endGo l k).1 ∧ (endGo l k).1 ≤ l.length := by
  intro n
  induction n with
  | zero =>
    intro k h hk
    rw [endGo_end l k (by omega)]
    simp only; omega
  | succ n ih =>
    intro k h hk
    by_cases hlt : k < l.length
    · by_cases h1 : l[k] = 62
      · rw [endGo_gt l k hlt h1]; simp only; omega
      · by_cases h2 : l[k] = 60
        · rw [endGo_lt l k hlt h2]; simp only; omega
        · have := ih (k + 1) (by omega) (by omega)
          rw [endGo_next l k hlt h1 h2]; omega
    · rw [endGo_end l k hlt]; simp only; omega
theorem docGo_range (l : List Int) : ∀ (n k : Nat) (ok : Bool), l.length - k ≤ n → k ≤ l.length → k ≤ (docGo l k ok).1 ∧ (docGo l k ok).1 ≤ l.length := by
  intro n
  induction n with
  | zero =>
    intro k ok h hk
    rw [docGo_end l k ok (by omega)]
    simp only; omega
  | succ n ih =>
    intro k ok h hk
    by_cases hlt : k < l.length ∧ ok = true
    · obtain ⟨hlt, rfl⟩ := hlt
      by_cases h1 : l[k] = 62
      · rw [docGo_hit l k hlt h1]; simp only; omega
      · cases h2 : isQuo l[k] with
        | true =>
          have := quotedF_gt l k hlt
          have := ih (quotedF l k).1 (quotedF l k).2 (by omega) (by omega)
          rw [docGo_quo l k hlt h1 h2]; omega
        | false =>
          by_cases h3 : l[k] = 91
          · have := subF_range l k hlt
            have := ih (subF l k).1 (subF l k).2 (by omega) (by omega)
            rw [docGo_sub l k hlt h3]; omega
          · have := ih (k + 1) true (by omega) (by omega)
            rw [docGo_next l k hlt h1 h2 h3]; omega
    · rw [docGo_end l k ok hlt]; simp only; omega
theorem markupF_range (l : List Int) (k : Nat) (hk : k < l.length) : k < (markupF l k).2.1 ∧ (markupF l k).2.1 ≤ l.length := by
  unfold markupF
  split
  · exact upToF_range l _ k _ _ hk (by decide)
  · split
    · exact upToF_range l _ k _ _ hk (by decide)
    · split
      · exact upToF_range l _ k _ _ hk (by decide)
      · split
        · rename_i h
          have h9 := starts_fits2 l k _ (by omega) h
          have h9 : k + 9 ≤ l.length := by simpa using h9
          have := docGo_range l l.length (k + 9) true (by omega) (by omega)
          unfold docTF; simp only; omega
        · split
          · rename_i h
            have h2 := starts_fits2 l k _ (by omega) h
            have h2 : k + 2 ≤ l.length := by simpa using h2
            have := endGo_range l l.length (k + 2) (by omega) (by omega)
            unfold endTF; simp only; omega
          · split
            · have h := angleF_range l true l.length (k + 1) (by omega) (by omega)
              unfold startTF
              split
              · simp only; omega
              · rename_i hb
                have := h.2.2 (by simpa using hb)
                split <;> (simp only; omega)
            · simp only; omega
theorem nextTF_range (l : List Int) (k : Nat) (hk : k < l.length) : k < (nextTF l k).2.1 ∧ (nextTF l k).2.1 ≤ l.length := by
  unfold nextTF
  rw [getD_at hk]
  split
  · exact markupF_range l k hk
  · split
    · exact ⟨refF_pos l k, refF_le l k hk⟩
    · split
      · simp only; omega
      · rename_i h1 h2 h3
        have hp : isPlain l[k] = true := by simp [isPlain, h1, h2, h3]
        have hs := (List.takeWhile_sublist isPlain (l := l.drop k)).length_le
        rw [List.length_drop] at hs
        rw [List.drop_eq_getElem_cons hk, List.takeWhile_cons, hp] at hs ⊢
        simp only [if_true, List.length_cons] at hs ⊢
        omega
def tokensGo (l : List Int) (k : Nat) : List ((Nat × Nat × Bool) × Nat) := if h : k < l.length then (nextTF l k, k) :: tokensGo l (nextTF l k).2.1 else []
termination_by l.length - k
decreasing_by
  have := nextTF_range l k h; omega
theorem tokensGo_cons (l : List Int) (k : Nat) (h : k < l.length) : tokensGo l k = (nextTF l k, k) :: tokensGo l (nextTF l k).2.1 := by
  conv => lhs; rw [tokensGo]
  rw [dif_pos h]
theorem tokensGo_nil (l : List Int) (k : Nat) (h : ¬ k < l.length) : tokensGo l k = [] := by rw [tokensGo, dif_neg h]
end Go.Proofs.YtcmjijpofkoogaaGreat
namespace Go.Proofs.YtcmjijpofkoogaaGreat
open Go.RowKit
end Go.Proofs.YtcmjijpofkoogaaGreat
namespace Go.Proofs.YtcmjijpofkoogaaGreat
open Go.RowKit Go.Lib
theorem indexByte_has (c : UInt8) : ∀ l : List UInt8, (0 ≤ Lib.indexByte l c) ↔ l.contains c = true
  | [] => by simp [Lib.indexByte]
  | b :: l => by
    have ih := indexByte_has c l
    have hg := Lib.indexByte_ge l c
    unfold Lib.indexByte
    by_cases hb : b = c
    · subst hb; simp
    · rw [if_neg (by simpa using hb)]
      simp only [List.contains_cons]
      rw [show (c == b) = false by simpa using fun h => hb h.symm, Bool.false_or, ← ih]
      split
      · rename_i h; have := beq_iff_eq.1 h; omega
      · rename_i h; have h : ¬ Lib.indexByte l c = -1 := by simpa using h
        omega
set_option maxHeartbeats 1000000 in
set_option maxRecDepth 100000 in
theorem IndexByteS_any (s : ByteArray) (c : Int) (w : World) :
    Calls Tryz.prog 349 #[.string s, .int .u8 c] w fun e w' => e = .returned (.int .i64 (Lib.indexByte s.data.toList c.toNat.toUInt8)) ∧ w = w' := by
  go_enter Tryz.func349, Tryz.ntmps349
  go_wp2
  rw [run_callFunc_extern Tryz.func371 (by kernel_rfl) (by kernel_rfl) (by kernel_rfl) (e := Extern.BytealgIndexByte.indexByte) (by kernel_rfl), Lib.run_indexByteString]
  simp only [Result.andThen]
  rw [Oper.upon_value]
  go_wp2
  go_ret
  exact ⟨rfl, rfl⟩
set_option maxHeartbeats 2000000 in
set_option maxRecDepth 100000 in
theorem IndexLite_any (s : ByteArray) (c : UInt8) (w : World) :
    Calls Tryz.prog 359 #[.string s, .string ⟨#[c]⟩] w fun e w' => ∃ k : Int, e = .returned (.int .i64 k) ∧ (0 ≤ k ↔ s.data.toList.contains c = true) ∧ w = w' := by
  have HI := fun W => Lib.hid (IndexByteS_any s c.toNat W)
  have hc : ((c.toNat : Int)).toNat.toUInt8 = c := by simp
  rw [hc] at HI
  have HX := Lib.hid (indexByte_has c s.data.toList)
  have HS := Lib.hid (show ([c] == s.toList) = true → (0 ≤ (0 : Int) ↔ s.data.toList.contains c = true) from fun h => by
    have e : s.data.toList = [c] := by rw [← ByteArray.toList_eq]; exact (beq_iff_eq.1 h).symm
    rw [e]; simp)
  generalize Lib.indexByte s.data.toList c = q at HI HX
  go_enter Tryz.func359, Tryz.ntmps359
  go_wp2_with (go_at_call 349; refine (HI _).out.mono ?_; rintro e w' ⟨rfl, rfl⟩)
  · have h : ([c] == s.toList) = true := by assumption
    go_ret
    exact ⟨0, rfl, HS.out h, rfl⟩
  · go_ret
    exact ⟨q, rfl, HX.out, rfl⟩
set_option maxHeartbeats 1000000 in
set_option maxRecDepth 100000 in
theorem IndexStr_any (s : ByteArray) (c : UInt8) (w : World) :
    Calls Tryz.prog 358 #[.string s, .string ⟨#[c]⟩] w fun e w' => ∃ k : Int, e = .returned (.int .i64 k) ∧ (0 ≤ k ↔ s.data.toList.contains c = true) ∧ w = w' := by
  have HI := fun W => Lib.hid (IndexLite_any s c W)
  go_enter Tryz.func358, Tryz.ntmps358
  go_wp2_with fail
  refine (HI _).out.mono ?_
  rintro e w' ⟨k, rfl, hk, rfl⟩
  have HK := Lib.hid hk
  clear hk
  go_wp2
  go_ret
  exact ⟨k, rfl, HK.out, rfl⟩
set_option maxHeartbeats 1000000 in
set_option maxRecDepth 100000 in
theorem ContainsStr_any (s : ByteArray) (c : UInt8) (w : World) :
    Calls Tryz.prog 334 #[.string s, .string ⟨#[c]⟩] w fun e w' => e = .returned (.bool (s.data.toList.contains c)) ∧ w = w' := by
  have HI := fun W => Lib.hid (IndexStr_any s c W)
  go_enter Tryz.func334, Tryz.ntmps334
  go_wp2_with fail
  refine (HI _).out.mono ?_
  rintro e w' ⟨k, rfl, hk, rfl⟩
  have HK := Lib.hid hk
  clear hk
  go_wp2
  go_ret
  refine ⟨ret_bool ?_, rfl⟩
  rw [Bool.eq_iff_iff, ← HK.out, decide_eq_true_iff]
end Go.Proofs.YtcmjijpofkoogaaGreat
namespace Go.Proofs.YtcmjijpofkoogaaGreat
open Go.RowKit Go.Lib
end Go.Proofs.YtcmjijpofkoogaaGreat
namespace Go.Proofs.YtcmjijpofkoogaaGreat
open Go.RowKit Go.Lib
end Go.Proofs.YtcmjijpofkoogaaGreat
namespace Go.Proofs.YtcmjijpofkoogaaGreat
open Go.RowKit Go.Lib
set_option maxRecDepth 100000 in
theorem NotAmp_any (r : Int) (w : World) : Calls Tryz.prog 401 #[.int .i32 r] w fun e w' => e = .returned (.bool (notAmp r)) ∧ w = w' := by
  go_enter Tryz.func401, Tryz.ntmps401
  go_wp2
  go_ret
  exact ⟨rfl, rfl⟩
theorem NotAmp_ok (w : World) : PredOk Tryz.prog 401 #[] notAmp w := fun W r _ => (NotAmp_any r W).mono fun _ _ ⟨h1, h2⟩ => ⟨h1, h2 ▸ Below.refl _ _⟩
end Go.Proofs.YtcmjijpofkoogaaGreat
namespace Go.Proofs.YtcmjijpofkoogaaGreat
open Go.RowKit Go.Lib
theorem sb_size : (Tryz.prog.info? 297).map (·.size) = some 2 := by kernel_rfl
theorem sb_lies : liesAt Tryz.prog Tryz.prog.depth 297 (2 / Tryz.prog.cellsOf 297) 0 297 1 = true := by kernel_rfl
theorem sb_cellsByte : Tryz.prog.cellsOf 5 = 1 := by kernel_rfl
set_option maxHeartbeats 1000000 in
set_option maxRecDepth 100000 in
theorem CC_used (b : Nat) (w : World) (h0 : w.cell? ⟨b, 0, none⟩ = some (.pointer (some ⟨b, 0, none⟩))) :
    Calls Tryz.prog 256 #[.pointer (some ⟨b, 0, none⟩)] w fun e w' => e = .returned (.tuple #[]) ∧ w' = w := by
  obtain ⟨j, hj, _⟩ := Option.map_eq_some_iff.1 sb_size
  go_enter Tryz.func256, Tryz.ntmps256
  go_wp2
  rw [Lib.run_neq_ptr_same w _ Tryz.underlying295 hj]
  go_wp2
  go_end0
  exact ⟨rfl, rfl⟩
set_option maxHeartbeats 1000000 in
set_option maxRecDepth 100000 in
theorem CC_fresh (b : Nat) (w : World) (h0 : w.cell? ⟨b, 0, none⟩ = some (.pointer none)) (hsh : w.shape? b = some (297, 2)) (hfz : w.frozen? ⟨b, 0, none⟩ = false) :
    Calls Tryz.prog 256 #[.pointer (some ⟨b, 0, none⟩)] w fun e w' => e = .returned (.tuple #[]) ∧ w' = w.setCell ⟨b, 0, none⟩ (.pointer (some ⟨b, 0, none⟩)) := by
  obtain ⟨j, hj, hjs⟩ := Option.map_eq_some_iff.1 sb_size
  go_enter Tryz.func256, Tryz.ntmps256
  go_wp2
  rw [Lib.run_to_unsafe w ⟨b, 0, none⟩ Tryz.underlying295 Tryz.underlying422 hj (by rw [hjs]; decide) hsh (Nat.zero_lt_succ 1)]
  simp only [Result.andThen]
  rw [Oper.upon_value]
  go_wp2
  rw [run_callFunc_extern Tryz.func310 (by kernel_rfl) (by kernel_rfl) (by kernel_rfl) (e := Extern.AbiNoEscape.same) (by kernel_rfl)]
  rw [Lib.run_noEscape]
  simp only [Result.andThen]
  rw [Oper.upon_value]
  go_wp2
  rw [Lib.run_from_unsafe w ⟨b, 0, none⟩ Tryz.underlying422 Tryz.underlying295 hj hsh sb_lies]
  simp only [Result.andThen]
  rw [Oper.upon_value]
  go_wp2
  go_end0
  exact ⟨rfl, rfl⟩
def Sb (B b : Nat) (xs : List UInt8) (w : World) : Prop := Lib.IsBuilder 297 5 B b (bc xs) w
theorem CC_any (B b : Nat) (xs : List UInt8) (w : World) (h : Sb B b xs w) :
    Calls Tryz.prog 256 #[.pointer (some ⟨b, 0, none⟩)] w fun e w' => e = .returned (.tuple #[]) ∧ Lib.BuilderAt 297 5 B b (.pointer (some ⟨b, 0, none⟩)) (bc xs) w' ∧ Below B w w' ∧ ∀ k, k ≠ b → w'.heap[k]? = w.heap[k]? := by
  rcases h with h | h
  · refine (CC_fresh b w h.cell0 h.shape h.frozen0).mono ?_
    rintro e w' ⟨rfl, rfl⟩
    exact ⟨rfl, h.used _, (Below.refl B w).setCell (p := ⟨b, 0, none⟩) h.1 _, fun k hk => Below.heap_setCell _ _ _ _ hk⟩
  · refine (CC_used b w h.cell0).mono ?_
    rintro e w' ⟨rfl, rfl⟩
    exact ⟨rfl, h, Below.refl B _, fun _ _ => rfl⟩
set_option maxHeartbeats 2000000 in
set_option maxRecDepth 100000 in
theorem SbWrite_any (S : Nat → Prop) (A : Option Addr) (n c B b : Nat) (xs ys : List UInt8) (w : World) (h : Sb B b xs w) (hr : Rd w S 1 A n c (bc ys)) (hS : ¬ S b) (hlen : xs.length + ys.length ≤ 1000000000) (hBw : B ≤ w.heap.size) :
    Calls Tryz.prog 189 #[.pointer (some ⟨b, 0, none⟩), .slice A n c] w fun e w' => e = .returned (.tuple #[.int .i64 n, .nilIface]) ∧ Sb B b (xs ++ ys) w' ∧ Below B w w' := by
  have hn : n = ys.length := by have := hr.len; simpa using this.symm
  subst hn
  have HR := Lib.hid hr
  have hcm : c ≤ 9223372036854775807 := hr.max
  have hle := hr.le
  clear hr
  go_enter Tryz.func189, Tryz.ntmps189
  go_wp2_with (go_at_call 256; refine (CC_any B b xs w h).mono ?_)
  rintro e w1 ⟨rfl, h1, hb1, hk1⟩
  obtain ⟨hB, v, hbk, hown, hne⟩ := h1
  have c0 : w1.cell? ⟨b, 0, none⟩ = some (.pointer (some ⟨b, 0, none⟩)) := by rw [Lib.cell_of_heap hbk]; rfl
  have c1 : w1.cell? ⟨b, 1, none⟩ = some v := by rw [Lib.cell_of_heap hbk]; rfl
  have HR1 := Lib.hid (HR.out.keep fun k hk _ => hk1 k (fun e => hS (e ▸ hk)))
  have hs1 : B ≤ w1.heap.size := by have := hb1.size; omega
  have hxl : (bc xs).length = xs.length := by simp
  rw [hxl] at hown
  obtain ⟨A0, c2, rfl, hro⟩ := own_form hown
  have hc2m : c2 ≤ 9223372036854775807 := hro.max
  have HO := Lib.hid hown
  clear hown hro hk1 HR h
  go_wp2_with (at_builtin; refine append_bytes _ rfl (.tmp 12) (.tmp 13) rfl B _ _ _ rfl HO.out S _ _ _ ys rfl HR1.out (by omega) hs1 ?_)
  intro A4 c4 w4 hown4 hg4 hc4
  have hlt : b < w1.heap.size := by
    rcases Nat.lt_or_ge b w1.heap.size with h' | h'
    · exact h'
    · simp [Array.getElem?_eq_none h'] at hbk
  have hb2 : w4.heap[b]? = some (.cells #[.pointer (some ⟨b, 0, none⟩), .slice A0 xs.length c2] 297 (0, 0)) := by
    rw [hg4.block b hlt (fun e => hne e.symm)]
    exact hbk
  have d0 : w4.cell? ⟨b, 0, none⟩ = some (.pointer (some ⟨b, 0, none⟩)) := by rw [Lib.cell_of_heap hb2]; rfl
  have d1 : w4.cell? ⟨b, 1, none⟩ = some (.slice A0 xs.length c2) := by rw [Lib.cell_of_heap hb2]; rfl
  have f1 : w4.frozen? ⟨b, 1, none⟩ = false := Lib.frozen_of_heap hb2 1
  have HB4 := Lib.hid (below_own hb1 hs1 HO.out hg4)
  have HO4 := Lib.hid hown4
  clear hown4 hg4
  go_wp2
  go_ret2
  refine ⟨rfl, .inr ?_, HB4.out.setCell (p := ⟨b, 1, none⟩) hB _⟩
  exact Lib.BuilderAt.put hB hb2 (by simpa [bc] using HO4.out) (by decide)
set_option maxHeartbeats 1000000 in
set_option maxRecDepth 100000 in
theorem SbString_any (B b : Nat) (l : List UInt8) (w : World) (h : Sb B b l w) (h0 : l ≠ []) :
    Calls Tryz.prog 190 #[.pointer (some ⟨b, 0, none⟩)] w fun e w' => e = .returned (.string ⟨l.toArray⟩) ∧ Below B w w' := by
  obtain ⟨p, hB, v, hbk, hown, hne⟩ : ∃ p, Lib.BuilderAt 297 5 B b p (bc l) w := by
    rcases h with h | h
    · exact ⟨_, h⟩
    · exact ⟨_, h⟩
  have hl0 : l.length ≠ 0 := by simpa using h0
  have hxl : (bc l).length = l.length := by simp
  rw [hxl] at hown
  obtain ⟨g, cap, cur, rfl, hbg, hg, hnc, hcm, hcs, htake⟩ : ∃ g cap cur, v = .slice (some ⟨g, 0, none⟩) l.length cap ∧ B ≤ g ∧ w.heap[g]? = some (.cells cur 5 (0, 0)) ∧ l.length ≤ cap ∧ cap ≤ maxLen ∧ cur.size = cap * 1 ∧ cur.toList.take (l.length * 1) = bc l := by
    rcases hown.2 with ⟨_, hz⟩ | ⟨g, cap, cur, hv, r⟩
    · exact absurd hz hl0
    · exact ⟨g, cap, cur, hv, r⟩
  have c1 : w.drew.cell? ⟨b, 1, none⟩ = some (.slice (some ⟨g, 0, none⟩) l.length cap) := by
    have : w.drew.heap[b]? = some (.cells #[p, .slice (some ⟨g, 0, none⟩) l.length cap] 297 (0, 0)) := hbk
    rw [Lib.cell_of_heap this]; rfl
  have hSD : (Builtin.unsafeSliceData_ #[41] 377 #[.slice (some ⟨g, 0, none⟩) l.length cap]).run Tryz.prog w.drew = .ok (.pointer (some ⟨g, 0, none⟩)) w.drew :=
    Lib.run_unsafeSliceData_row _ _ _ _ _ _ (by omega)
  have hUS : (Builtin.unsafeString_ #[377, 3] 9 #[.pointer (some ⟨g, 0, none⟩), .int .i64 l.length]).run Tryz.prog w.drew = .ok (.string ⟨l.toArray⟩) (w.drew.freeze ⟨g, 0, none⟩ l.length) := by
    refine Lib.run_unsafeString_row w.drew 377 3 9 5 Tryz.underlying377 sb_cellsByte g cur.size (by have hg' : w.drew.heap[g]? = some (.cells cur 5 (0, 0)) := hg; simp [World.shape?, hg']) l h0 (by omega) (by unfold maxLen at hcm; omega) ?_
    intro j x hx
    have := hown.cells (g := g) rfl j (.int .u8 x.toNat) (by simp [bc, hx])
    exact this
  go_enter Tryz.func190, Tryz.ntmps190
  go_wp2
  go_region
  all_goals (go_wp2; go_ret; exact ⟨rfl, Lib.below_freeze (Below.drew (Below.refl B w)) (p := ⟨g, 0, none⟩) hbg _⟩)
end Go.Proofs.YtcmjijpofkoogaaGreat
namespace Go.Proofs.YtcmjijpofkoogaaGreat
open Go.RowKit Go.Lib
def strF (l : List Int) : List UInt8 := l.flatMap fun x => if x = -1 then [] else bytesF [x]
theorem strF_step (l : List Int) {k : Nat} (h : k < l.length) : strF (l.take (k + 1)) = strF (l.take k) ++ (if l[k] = -1 then [] else bytesF [l[k]]) := by
  rw [strF, strF, List.take_succ_eq_append_getElem h, List.flatMap_append]; simp
theorem strF_len (l : List Int) : (strF l).length ≤ 4 * l.length := by
  induction l with
  | nil => exact Nat.zero_le _
  | cons x r ih =>
    have h1 : (if x = -1 then ([] : List UInt8) else bytesF [x]).length ≤ 4 := by
      split
      · exact Nat.zero_le _
      · have := bytesF_len [x]; simpa using this
    have e : strF (x :: r) = (if x = -1 then [] else bytesF [x]) ++ strF r := rfl
    rw [e, List.length_append, List.length_cons]
    omega
theorem Sb.below {B b : Nat} {xs : List UInt8} {w w' : World} (h : Sb B b xs w) (hb : Below w.heap.size w w') : Sb B b xs w' := by
  have key : ∀ p, Lib.BuilderAt 297 5 B b p (bc xs) w → Lib.BuilderAt 297 5 B b p (bc xs) w' := by
    rintro p ⟨hB, v, hbk, hown, hne⟩
    have hlt : b < w.heap.size := Lib.BuilderAt.lt ⟨hB, v, hbk, hown, hne⟩
    exact ⟨hB, v, by rw [hb.block b hlt]; exact hbk, own_below hown hb, hne⟩
  exact h.imp (key _) (key _)
theorem Sb.lt {B b : Nat} {xs : List UInt8} {w : World} (h : Sb B b xs w) : b < w.heap.size := by
  rcases h with h | h
  · exact h.lt
  · exact h.lt
set_option maxHeartbeats 2000000 in
set_option maxRecDepth 100000 in
theorem TIn_any (A : Option Addr) (n c i j : Nat) (w : World) (hij : i ≤ j) (hj : j ≤ n) :
    Calls Tryz.prog 188 #[.agg #[.int .i64 0, .int .i64 0, .slice A n c, .slice none 0 0], .int .i64 i, .int .i64 j] w fun e w' => e = .returned (.bool true) ∧ Below w.heap.size w w' := by
  go_enter Tryz.func188, Tryz.ntmps188
  go_wp2
  go_ret
  exact ⟨rfl, (Below.refl _ w).alloc (Nat.le_refl _) _⟩
set_option maxHeartbeats 2000000 in
set_option maxRecDepth 100000 in
theorem TString_any (S : Nat → Prop) (A : Option Addr) (n c : Nat) (l : List Int) (i j : Nat) (w : World) (hr : Rd w S 1 A n c (rc l)) (hij : i ≤ j) (hj : j ≤ l.length) (hl : l.length ≤ 1000000) (hne : strF ((l.drop i).take (j - i)) ≠ []) :
    Calls Tryz.prog 127 #[.agg #[.int .i64 0, .int .i64 0, .slice A n c, .slice none 0 0], .int .i64 i, .int .i64 j] w fun e w' => e = .returned (.string ⟨(strF ((l.drop i).take (j - i))).toArray⟩) ∧ Below w.heap.size w w' := by
  obtain rfl := hr.rlen
  have hle := hr.le
  have hmx : c ≤ 9223372036854775807 := hr.max
  obtain ⟨A2, hr2, hcut⟩ := hr.cutLH (P := Tryz.prog) (t := 24) Tryz.underlying24 Tryz.sizeOf21 hij hj
  have hrc : ((rc l).drop (i * 1)).take ((j - i) * 1) = rc ((l.drop i).take (j - i)) := by simp [rc, List.map_take, List.map_drop]
  rw [hrc] at hr2
  obtain ⟨s, hs⟩ : ∃ s, s = (l.drop i).take (j - i) := ⟨_, rfl⟩
  rw [← hs] at hr2 hne ⊢
  have hsl : s.length = j - i := by rw [hs, List.length_take, List.length_drop]; omega
  have HR := Lib.hid hr2
  have HC := Lib.hid hcut
  clear hr hr2 hrc hs hcut
  go_enter Tryz.func127, Tryz.ntmps127
  go_wp2_with (go_at_call 188; refine (TIn_any _ _ _ _ _ _ hij hj).mono ?_)
  rintro e w1 ⟨rfl, hb1⟩
  have HB1 := Lib.hid (bt (ba w _) hb1)
  have hc0 : w1.cell? ⟨w.heap.size, 2, none⟩ = some (.slice A l.length c) := cell_keep hb1 (box_cell w _ _ 2 rfl)
  have hlt0 : w.heap.size < w1.heap.size := World.block_lt_of_cell? w1 _ hc0
  have hc1 : (w1.alloc (.cells #[.pointer none, .slice none 0 0] 297)).cell? ⟨w.heap.size, 2, none⟩ = some (.slice A l.length c) := cell_keep ((Below.refl _ w1).alloc (Nat.le_refl _) _) hc0
  have HSB : Hid (Sb w1.heap.size w1.heap.size [] (w1.alloc (.cells #[.pointer none, .slice none 0 0] 297))) := Lib.fresh_isBuilder 297 5 w1
  have hcut := HC.out
  clear hb1 hc0
  go_wp2
  clear hcut
  go_loopw [21] (fun q wr => ∃ (k : Nat), k ≤ s.length ∧ q = .int .i64 k ∧ Hid (Sb w1.heap.size w1.heap.size (strF (s.take k)) wr) ∧ Hid (Below w1.heap.size w1 wr))
    (fun q _ => s.length - (intOf q).toNat)
  case atStart => exact ⟨0, Nat.zero_le _, rfl, HSB.out, ba w1 _⟩
  case round =>
    obtain ⟨k, hk, rfl, HO, HB⟩ := hrel
    have hsz := HB.out.size
    have hblt := HO.out.lt
    have hfl := strF_len (s.take k)
    rw [List.length_take] at hfl
    by_cases hlt : k < s.length
    · obtain ⟨b, u, rfl, hc2⟩ := (HR.out.below (bt HB1.out HB.out)).rune hlt
      have HST := Lib.hid (strF_step s hlt)
      generalize s[k] = r at hc2 HST
      by_cases hb : r = -1
      · have hS2 : strF (s.take (k + 1)) = strF (s.take k) := by rw [HST.out, if_pos hb, List.append_nil]
        have HST2 := Lib.hid hS2
        clear HST hS2
        subst hb
        go_wp2
        go_roundw
        case rel => exact ⟨k + 1, by omega, by go_num, by rw [HST2.out]; exact HO.out, HB.out⟩
        case measure => simp [intOf]; omega
      · have hS2 : strF (s.take (k + 1)) = strF (s.take k) ++ bytesF [r] := by rw [HST.out, if_neg hb]
        have HST2 := Lib.hid hS2
        clear HST hS2
        have hbl := bytesF_len [r]
        simp only [List.length_singleton] at hbl
        have hsa : (wr.alloc (.cells #[.int .i32 r] 21)).heap.size = wr.heap.size + 1 := by simp
        go_wp2_with fail
        refine (Bytes_any _ _ 1 1 [r] _ (Rd.litN wr wr.heap.size rfl _ #[.int .i32 r] 1 1 rfl (by decide)) (by simp)).mono ?_
        rintro e w2 ⟨v, rfl, ⟨n2, hown⟩, hb2⟩
        have hn2 := bc_own_len hown
        obtain ⟨A3, c3, rfl, hro⟩ := own_form hown
        have HO2 := Lib.hid ((HO.out.below (ba wr _)).below hb2)
        have HB2 := Lib.hid (bb (bb HB.out (ba wr _) hsz) hb2 (by omega))
        have hsz2 := HB2.out.size
        have HRO := Lib.hid hro
        have hc3 : c3 ≤ 9223372036854775807 := hro.max
        subst hn2
        clear hown hb2 hro
        go_wp2_with fail
        refine (SbWrite_any _ A3 _ c3 w1.heap.size w1.heap.size (strF (s.take k)) (bytesF [r]) w2 HO2.out HRO.out (by omega) (by omega) hsz2).mono ?_
        rintro e w3 ⟨rfl, h3, hb3⟩
        have HO3 := Lib.hid h3
        have HB3 := Lib.hid (HB2.out.trans hb3)
        clear h3 hb3
        go_wp2
        go_roundw
        case rel => exact ⟨k + 1, by omega, by go_num, by rw [HST2.out]; exact HO3.out, HB3.out⟩
        case measure => simp [intOf]; omega
    · have e : s.take k = s := List.take_of_length_le (by omega)
      rw [e] at HO
      go_wp2_with fail
      refine (SbString_any w1.heap.size w1.heap.size (strF s) wr HO.out hne).mono ?_
      rintro e w3 ⟨rfl, hb3⟩
      have HB3 := Lib.hid (HB.out.trans hb3)
      clear hb3
      go_wp2
      go_ret
      exact ⟨rfl, HB1.out.trans (HB3.out.mono HB1.out.size)⟩
end Go.Proofs.YtcmjijpofkoogaaGreat
