/- Lemmas, conditions told -/
import Derived.Test.YtaklahcbeldbhaaGreatDoorZR02
import Derived.Test.YtaklahcbeldbhaaGreatDoorZR01
import Derived.Lib.Builder
import Derived.Lib.UnsafeStr
import Derived.Lib.SplitLaws
import Derived.Shelf.Strings.OnBuilder
import Derived.Shelf.Strings.SplitCore
import Derived.Shelf.Strings.Count
import Derived.Shelf.Strings.Search3
import Derived.Test.YtaklahcbeldbhaaGreatDoorProg
set_option linter.unusedSimpArgs false
set_option linter.unusedVariables false
namespace Go.Proofs.YtaklahcbeldbhaaGreatDoor
open Go.RowKit Go.Lib
theorem load_lit {P : Program} {T : TypeId} {d : TypeDesc} (w : World) (vs : List Value) (hi : (P.info? T).map (·.size) = some vs.length) (hu : P.underlying T = some d) (hd : d.isRow = true) :
    (loadVar T ⟨w.heap.size, 0, none⟩).run P (w.alloc (.cells vs.toArray T)) = .ok (.agg vs.toArray) (w.alloc (.cells vs.toArray T)) :=
  run_loadVar_mid (P := P) _ w.heap.size 0 T vs d (fun j v hv => by
    rw [World.cell?_alloc_at _ _ _ _ rfl, Nat.zero_add]
    simpa using hv) hu hd hi
theorem starts_fits2 (l : List Int) (k : Nat) (bs : List UInt8) (hk : k ≤ l.length) (h : startsF l k bs = true) : k + bs.length ≤ l.length := by
  by_cases hn : l.length < k + bs.length
  · rw [starts_short l k bs hn hk] at h; cases h
  · omega
set_option maxHeartbeats 4000000 in
set_option maxRecDepth 100000 in
theorem Markup_any (S : Nat → Prop) (A : Option Addr) (n c : Nat) (l : List Int) (k : Nat) (w : World) (hr : Rd w S 1 A n c (rc l)) (hk : k < l.length) (hl9 : l.length ≤ 1000000000) :
    Calls Tryz.prog 94 #[.slice A n c, .int .i64 k] w fun e w' => e = .returned (tokV (markupF l k) k) ∧ Below w.heap.size w w' := by
  obtain rfl := hr.rlen
  have hle := hr.le
  have hmx : c ≤ 9223372036854775807 := hr.max
  have HR := Lib.hid hr
  have HSa : ∀ W, Below w.heap.size w W → Hid (Calls Tryz.prog 105 #[.slice A l.length c, .int .i64 k, .string ⟨#[60, 33, 45, 45]⟩] W fun e w' => e = .returned (.bool (startsF l k [60, 33, 45, 45])) ∧ Below W.heap.size W w') :=
    fun W h => Starts_any S A l.length c l k ⟨#[60, 33, 45, 45]⟩ W (HR.out.below h) (by omega) hl9 (by decide)
  have HSb : ∀ W, Below w.heap.size w W → Hid (Calls Tryz.prog 105 #[.slice A l.length c, .int .i64 k, .string ⟨#[60, 33, 91, 67, 68, 65, 84, 65, 91]⟩] W fun e w' => e = .returned (.bool (startsF l k [60, 33, 91, 67, 68, 65, 84, 65, 91])) ∧ Below W.heap.size W w') :=
    fun W h => Starts_any S A l.length c l k ⟨#[60, 33, 91, 67, 68, 65, 84, 65, 91]⟩ W (HR.out.below h) (by omega) hl9 (by decide)
  have HSc : ∀ W, Below w.heap.size w W → Hid (Calls Tryz.prog 105 #[.slice A l.length c, .int .i64 k, .string ⟨#[60, 63]⟩] W fun e w' => e = .returned (.bool (startsF l k [60, 63])) ∧ Below W.heap.size W w') :=
    fun W h => Starts_any S A l.length c l k ⟨#[60, 63]⟩ W (HR.out.below h) (by omega) hl9 (by decide)
  have HSd : ∀ W, Below w.heap.size w W → Hid (Calls Tryz.prog 105 #[.slice A l.length c, .int .i64 k, .string ⟨#[60, 33, 68, 79, 67, 84, 89, 80, 69]⟩] W fun e w' => e = .returned (.bool (startsF l k [60, 33, 68, 79, 67, 84, 89, 80, 69])) ∧ Below W.heap.size W w') :=
    fun W h => Starts_any S A l.length c l k ⟨#[60, 33, 68, 79, 67, 84, 89, 80, 69]⟩ W (HR.out.below h) (by omega) hl9 (by decide)
  have HSe : ∀ W, Below w.heap.size w W → Hid (Calls Tryz.prog 105 #[.slice A l.length c, .int .i64 k, .string ⟨#[60, 47]⟩] W fun e w' => e = .returned (.bool (startsF l k [60, 47])) ∧ Below W.heap.size W w') :=
    fun W h => Starts_any S A l.length c l k ⟨#[60, 47]⟩ W (HR.out.below h) (by omega) hl9 (by decide)
  have HUa : ∀ W, Below w.heap.size w W → Hid (Calls Tryz.prog 108 #[.slice A l.length c, .int .i64 4, .int .i64 k, .int .i64 4, .string ⟨#[45, 45, 62]⟩] W fun e w' => e = .returned (.agg #[.int .i64 (upToF l 4 k 4 [45, 45, 62]).1, .int .i64 k, .int .i64 (upToF l 4 k 4 [45, 45, 62]).2.1, .bool (upToF l 4 k 4 [45, 45, 62]).2.2]) ∧ Below W.heap.size W w') :=
    fun W h => UpTo_any S A l.length c l 4 k 4 ⟨#[45, 45, 62]⟩ W (HR.out.below h) (by omega) (by decide) hl9 (by decide)
  have HUb : ∀ W, Below w.heap.size w W → Hid (Calls Tryz.prog 108 #[.slice A l.length c, .int .i64 6, .int .i64 k, .int .i64 9, .string ⟨#[93, 93, 62]⟩] W fun e w' => e = .returned (.agg #[.int .i64 (upToF l 6 k 9 [93, 93, 62]).1, .int .i64 k, .int .i64 (upToF l 6 k 9 [93, 93, 62]).2.1, .bool (upToF l 6 k 9 [93, 93, 62]).2.2]) ∧ Below W.heap.size W w') :=
    fun W h => UpTo_any S A l.length c l 6 k 9 ⟨#[93, 93, 62]⟩ W (HR.out.below h) (by omega) (by decide) hl9 (by decide)
  have HUc : ∀ W, Below w.heap.size w W → Hid (Calls Tryz.prog 108 #[.slice A l.length c, .int .i64 5, .int .i64 k, .int .i64 2, .string ⟨#[63, 62]⟩] W fun e w' => e = .returned (.agg #[.int .i64 (upToF l 5 k 2 [63, 62]).1, .int .i64 k, .int .i64 (upToF l 5 k 2 [63, 62]).2.1, .bool (upToF l 5 k 2 [63, 62]).2.2]) ∧ Below W.heap.size W w') :=
    fun W h => UpTo_any S A l.length c l 5 k 2 ⟨#[63, 62]⟩ W (HR.out.below h) (by omega) (by decide) hl9 (by decide)
  have HUd : startsF l k [60, 33, 68, 79, 67, 84, 89, 80, 69] = true → ∀ W, Below w.heap.size w W → Hid (Calls Tryz.prog 109 #[.slice A l.length c, .int .i64 k] W fun e w' => e = .returned (.agg #[.int .i64 (docTF l k).1, .int .i64 k, .int .i64 (docTF l k).2.1, .bool (docTF l k).2.2]) ∧ Below W.heap.size W w') :=
    fun hs W h => Doctypes_any S A l.length c l k W (HR.out.below h) (by have := starts_fits2 l k _ (by omega) hs; simpa using this) hl9
  have HUe : startsF l k [60, 47] = true → ∀ W, Below w.heap.size w W → Hid (Calls Tryz.prog 110 #[.slice A l.length c, .int .i64 k] W fun e w' => e = .returned (.agg #[.int .i64 (endTF l k).1, .int .i64 k, .int .i64 (endTF l k).2.1, .bool (endTF l k).2.2]) ∧ Below W.heap.size W w') :=
    fun hs W h => EndT_any S A l.length c l k W (HR.out.below h) (by have := starts_fits2 l k _ (by omega) hs; simpa using this) hl9
  have HUf : ∀ W, Below w.heap.size w W → Hid (Calls Tryz.prog 111 #[.slice A l.length c, .int .i64 k] W fun e w' => e = .returned (.agg #[.int .i64 (startTF l k).1, .int .i64 k, .int .i64 (startTF l k).2.1, .bool (startTF l k).2.2]) ∧ Below W.heap.size W w') :=
    fun W h => StartT_any S A l.length c l k W (HR.out.below h) hk hl9
  have HLD : ∀ W, Below w.heap.size w W → Hid (Calls Tryz.prog 103 #[.slice A l.length c, .int .i64 ((k : Int) + 1)] W fun e w' => e = .returned (.int .i64 (leadF l (k + 1))) ∧ Below W.heap.size W w') := fun W h => by
    rw [show ((k : Int) + 1) = ((k + 1 : Nat) : Int) by omega]
    exact NLead_any S A l.length c l (k + 1) W (HR.out.below h) (by omega)
  have HT : Hid (markupF l k = if startsF l k [60, 33, 45, 45] = true then upToF l 4 k 4 [45, 45, 62]
    else if startsF l k [60, 33, 91, 67, 68, 65, 84, 65, 91] = true then upToF l 6 k 9 [93, 93, 62]
    else if startsF l k [60, 63] = true then upToF l 5 k 2 [63, 62]
    else if startsF l k [60, 33, 68, 79, 67, 84, 89, 80, 69] = true then docTF l k
    else if startsF l k [60, 47] = true then endTF l k
    else if 0 < leadF l (k + 1) then startTF l k
    else (11, k + 1, false)) := rfl
  clear hr
  generalize markupF l k = t at HT ⊢
  generalize startsF l k [60, 33, 45, 45] = sa at HSa HT
  generalize startsF l k [60, 33, 91, 67, 68, 65, 84, 65, 91] = sb at HSb HT
  generalize startsF l k [60, 63] = sc at HSc HT
  generalize startsF l k [60, 33, 68, 79, 67, 84, 89, 80, 69] = sd at HSd HT HUd
  generalize startsF l k [60, 47] = se at HSe HT HUe
  generalize upToF l 4 k 4 [45, 45, 62] = ua at HUa HT
  generalize upToF l 6 k 9 [93, 93, 62] = ub at HUb HT
  generalize upToF l 5 k 2 [63, 62] = uc at HUc HT
  generalize docTF l k = ud at HUd HT
  generalize endTF l k = ue at HUe HT
  generalize startTF l k = uf at HUf HT
  generalize leadF l (k + 1) = ld at HLD HT
  obtain ⟨kka, tta, wwa⟩ := ua
  obtain ⟨kkb, ttb, wwb⟩ := ub
  obtain ⟨kkc, ttc, wwc⟩ := uc
  obtain ⟨kkd, ttd, wwd⟩ := ud
  obtain ⟨kke, tte, wwe⟩ := ue
  obtain ⟨kkf, ttf, wwf⟩ := uf
  go_enter Tryz.func94, Tryz.ntmps94
  go_wp2_with fail
  have HTH0 := Lib.hid (there_lit w #[.int .i64 0, .int .i64 0, .int .i64 0, .bool false] 109)
  have HB0 := Lib.hid (ba w (.cells #[.int .i64 0, .int .i64 0, .int .i64 0, .bool false] 109))
  have HSZ : Hid (w.heap.size < (w.alloc (.cells #[.int .i64 0, .int .i64 0, .int .i64 0, .bool false] 109)).heap.size) := by simp [Hid]
  generalize w.alloc (.cells #[.int .i64 0, .int .i64 0, .int .i64 0, .bool false] 109) = W0 at HTH0 HB0 HSZ
  have HTH0 : Hid (W0.there w.heap.size 0 4) := HTH0.out
  refine (HSa _ HB0.out).out.mono ?_
  rintro e va ⟨rfl, hb⟩
  have HBa := Lib.hid (HB0.out.trans (hb.mono HB0.out.size))
  have HTHa : Hid (va.there w.heap.size 0 4) := there_below HTH0.out hb HSZ.out
  have HLTa : Hid (w.heap.size < va.heap.size) := Nat.lt_of_lt_of_le HSZ.out hb.size
  clear hb HSa
  cases sa with
  | true =>
    have HE : Hid (t = (kka, tta, wwa)) := HT.out
    clear HT
    go_wp2_with fail
    refine (HUa _ HBa.out).out.mono ?_
    rintro e xa ⟨rfl, hb⟩
    have HBx := Lib.hid (HBa.out.trans (hb.mono HBa.out.size))
    have HTHx : Hid (xa.there w.heap.size 0 4) := there_below HTHa.out hb HLTa.out
    clear hb
    have HL9 := Lib.hid (load_struct (P := Tryz.prog) (T := 109) xa w.heap.size [.int .i64 kka, .int .i64 k, .int .i64 (tta), .bool wwa] HTHx.out (by kernel_rfl) Tryz.underlying109 rfl)
    have HB9 := Lib.hid (below_setCells2 HBx.out w.heap.size (Nat.le_refl _) [.int .i64 kka, .int .i64 k, .int .i64 (tta), .bool wwa] 0)
    obtain ⟨⟨z0, hz0⟩, hf0⟩ := there_cell HTHx.out 0 (by decide)
    obtain ⟨⟨z1, hz1⟩, hf1⟩ := there_cell HTHx.out 1 (by decide)
    obtain ⟨⟨z2, hz2⟩, hf2⟩ := there_cell HTHx.out 2 (by decide)
    obtain ⟨⟨z3, hz3⟩, hf3⟩ := there_cell HTHx.out 3 (by decide)
    go_wp2
    refine bodyPost_ret (results_cell1 rfl _ rfl HL9.out) rfl ?_
    rw [HE.out]
    exact ⟨rfl, HB9.out⟩
  | false =>
    go_wp2_with fail
    refine (HSb _ HBa.out).out.mono ?_
    rintro e vb ⟨rfl, hb⟩
    have HBb := Lib.hid (HBa.out.trans (hb.mono HBa.out.size))
    have HTHb : Hid (vb.there w.heap.size 0 4) := there_below HTHa.out hb HLTa.out
    have HLTb : Hid (w.heap.size < vb.heap.size) := Nat.lt_of_lt_of_le HLTa.out hb.size
    clear hb HSb
    cases sb with
    | true =>
      have HE : Hid (t = (kkb, ttb, wwb)) := HT.out
      clear HT
      go_wp2_with fail
      refine (HUb _ HBb.out).out.mono ?_
      rintro e xb ⟨rfl, hb⟩
      have HBx := Lib.hid (HBb.out.trans (hb.mono HBb.out.size))
      have HTHx : Hid (xb.there w.heap.size 0 4) := there_below HTHb.out hb HLTb.out
      clear hb
      have HL9 := Lib.hid (load_struct (P := Tryz.prog) (T := 109) xb w.heap.size [.int .i64 kkb, .int .i64 k, .int .i64 (ttb), .bool wwb] HTHx.out (by kernel_rfl) Tryz.underlying109 rfl)
      have HB9 := Lib.hid (below_setCells2 HBx.out w.heap.size (Nat.le_refl _) [.int .i64 kkb, .int .i64 k, .int .i64 (ttb), .bool wwb] 0)
      obtain ⟨⟨z0, hz0⟩, hf0⟩ := there_cell HTHx.out 0 (by decide)
      obtain ⟨⟨z1, hz1⟩, hf1⟩ := there_cell HTHx.out 1 (by decide)
      obtain ⟨⟨z2, hz2⟩, hf2⟩ := there_cell HTHx.out 2 (by decide)
      obtain ⟨⟨z3, hz3⟩, hf3⟩ := there_cell HTHx.out 3 (by decide)
      go_wp2
      refine bodyPost_ret (results_cell1 rfl _ rfl HL9.out) rfl ?_
      rw [HE.out]
      exact ⟨rfl, HB9.out⟩
    | false =>
      go_wp2_with fail
      refine (HSc _ HBb.out).out.mono ?_
      rintro e vc ⟨rfl, hb⟩
      have HBc := Lib.hid (HBb.out.trans (hb.mono HBb.out.size))
      have HTHc : Hid (vc.there w.heap.size 0 4) := there_below HTHb.out hb HLTb.out
      have HLTc : Hid (w.heap.size < vc.heap.size) := Nat.lt_of_lt_of_le HLTb.out hb.size
      clear hb HSc
      cases sc with
      | true =>
        have HE : Hid (t = (kkc, ttc, wwc)) := HT.out
        clear HT
        go_wp2_with fail
        refine (HUc _ HBc.out).out.mono ?_
        rintro e xc ⟨rfl, hb⟩
        have HBx := Lib.hid (HBc.out.trans (hb.mono HBc.out.size))
        have HTHx : Hid (xc.there w.heap.size 0 4) := there_below HTHc.out hb HLTc.out
        clear hb
        have HL9 := Lib.hid (load_struct (P := Tryz.prog) (T := 109) xc w.heap.size [.int .i64 kkc, .int .i64 k, .int .i64 (ttc), .bool wwc] HTHx.out (by kernel_rfl) Tryz.underlying109 rfl)
        have HB9 := Lib.hid (below_setCells2 HBx.out w.heap.size (Nat.le_refl _) [.int .i64 kkc, .int .i64 k, .int .i64 (ttc), .bool wwc] 0)
        obtain ⟨⟨z0, hz0⟩, hf0⟩ := there_cell HTHx.out 0 (by decide)
        obtain ⟨⟨z1, hz1⟩, hf1⟩ := there_cell HTHx.out 1 (by decide)
        obtain ⟨⟨z2, hz2⟩, hf2⟩ := there_cell HTHx.out 2 (by decide)
        obtain ⟨⟨z3, hz3⟩, hf3⟩ := there_cell HTHx.out 3 (by decide)
        go_wp2
        refine bodyPost_ret (results_cell1 rfl _ rfl HL9.out) rfl ?_
        rw [HE.out]
        exact ⟨rfl, HB9.out⟩
      | false =>
        go_wp2_with fail
        refine (HSd _ HBc.out).out.mono ?_
        rintro e vd ⟨rfl, hb⟩
        have HBd := Lib.hid (HBc.out.trans (hb.mono HBc.out.size))
        have HTHd : Hid (vd.there w.heap.size 0 4) := there_below HTHc.out hb HLTc.out
        have HLTd : Hid (w.heap.size < vd.heap.size) := Nat.lt_of_lt_of_le HLTc.out hb.size
        clear hb HSd
        cases sd with
        | true =>
          have HE : Hid (t = (kkd, ttd, wwd)) := HT.out
          clear HT
          go_wp2_with fail
          refine (HUd (by first | trivial | rfl) _ HBd.out).out.mono ?_
          rintro e xd ⟨rfl, hb⟩
          have HBx := Lib.hid (HBd.out.trans (hb.mono HBd.out.size))
          have HTHx : Hid (xd.there w.heap.size 0 4) := there_below HTHd.out hb HLTd.out
          clear hb
          have HL9 := Lib.hid (load_struct (P := Tryz.prog) (T := 109) xd w.heap.size [.int .i64 kkd, .int .i64 k, .int .i64 (ttd), .bool wwd] HTHx.out (by kernel_rfl) Tryz.underlying109 rfl)
          have HB9 := Lib.hid (below_setCells2 HBx.out w.heap.size (Nat.le_refl _) [.int .i64 kkd, .int .i64 k, .int .i64 (ttd), .bool wwd] 0)
          obtain ⟨⟨z0, hz0⟩, hf0⟩ := there_cell HTHx.out 0 (by decide)
          obtain ⟨⟨z1, hz1⟩, hf1⟩ := there_cell HTHx.out 1 (by decide)
          obtain ⟨⟨z2, hz2⟩, hf2⟩ := there_cell HTHx.out 2 (by decide)
          obtain ⟨⟨z3, hz3⟩, hf3⟩ := there_cell HTHx.out 3 (by decide)
          go_wp2
          refine bodyPost_ret (results_cell1 rfl _ rfl HL9.out) rfl ?_
          rw [HE.out]
          exact ⟨rfl, HB9.out⟩
        | false =>
          go_wp2_with fail
          refine (HSe _ HBd.out).out.mono ?_
          rintro e ve ⟨rfl, hb⟩
          have HBe := Lib.hid (HBd.out.trans (hb.mono HBd.out.size))
          have HTHe : Hid (ve.there w.heap.size 0 4) := there_below HTHd.out hb HLTd.out
          have HLTe : Hid (w.heap.size < ve.heap.size) := Nat.lt_of_lt_of_le HLTd.out hb.size
          clear hb HSe
          cases se with
          | true =>
            have HE : Hid (t = (kke, tte, wwe)) := HT.out
            clear HT
            go_wp2_with fail
            refine (HUe (by first | trivial | rfl) _ HBe.out).out.mono ?_
            rintro e xe ⟨rfl, hb⟩
            have HBx := Lib.hid (HBe.out.trans (hb.mono HBe.out.size))
            have HTHx : Hid (xe.there w.heap.size 0 4) := there_below HTHe.out hb HLTe.out
            clear hb
            have HL9 := Lib.hid (load_struct (P := Tryz.prog) (T := 109) xe w.heap.size [.int .i64 kke, .int .i64 k, .int .i64 (tte), .bool wwe] HTHx.out (by kernel_rfl) Tryz.underlying109 rfl)
            have HB9 := Lib.hid (below_setCells2 HBx.out w.heap.size (Nat.le_refl _) [.int .i64 kke, .int .i64 k, .int .i64 (tte), .bool wwe] 0)
            obtain ⟨⟨z0, hz0⟩, hf0⟩ := there_cell HTHx.out 0 (by decide)
            obtain ⟨⟨z1, hz1⟩, hf1⟩ := there_cell HTHx.out 1 (by decide)
            obtain ⟨⟨z2, hz2⟩, hf2⟩ := there_cell HTHx.out 2 (by decide)
            obtain ⟨⟨z3, hz3⟩, hf3⟩ := there_cell HTHx.out 3 (by decide)
            go_wp2
            refine bodyPost_ret (results_cell1 rfl _ rfl HL9.out) rfl ?_
            rw [HE.out]
            exact ⟨rfl, HB9.out⟩
          | false =>
            go_wp2_with fail
            refine (HLD _ HBe.out).out.mono ?_
            rintro e vf ⟨rfl, hb⟩
            have HBf := Lib.hid (HBe.out.trans (hb.mono HBe.out.size))
            have HTHf : Hid (vf.there w.heap.size 0 4) := there_below HTHe.out hb HLTe.out
            have HLTf : Hid (w.heap.size < vf.heap.size) := Nat.lt_of_lt_of_le HLTe.out hb.size
            clear hb HLD
            by_cases hl0 : 0 < ld
            · have hl0i : (ld : Int) > 0 := by omega
              have HE : Hid (t = (kkf, ttf, wwf)) := by rw [Hid, HT.out]; simp [hl0]
              clear HT
              go_wp2_with fail
              refine (HUf _ HBf.out).out.mono ?_
              rintro e xf ⟨rfl, hb⟩
              have HBx := Lib.hid (HBf.out.trans (hb.mono HBf.out.size))
              have HTHx : Hid (xf.there w.heap.size 0 4) := there_below HTHf.out hb HLTf.out
              clear hb
              have HL9 := Lib.hid (load_struct (P := Tryz.prog) (T := 109) xf w.heap.size [.int .i64 kkf, .int .i64 k, .int .i64 (ttf), .bool wwf] HTHx.out (by kernel_rfl) Tryz.underlying109 rfl)
              have HB9 := Lib.hid (below_setCells2 HBx.out w.heap.size (Nat.le_refl _) [.int .i64 kkf, .int .i64 k, .int .i64 (ttf), .bool wwf] 0)
              obtain ⟨⟨z0, hz0⟩, hf0⟩ := there_cell HTHx.out 0 (by decide)
              obtain ⟨⟨z1, hz1⟩, hf1⟩ := there_cell HTHx.out 1 (by decide)
              obtain ⟨⟨z2, hz2⟩, hf2⟩ := there_cell HTHx.out 2 (by decide)
              obtain ⟨⟨z3, hz3⟩, hf3⟩ := there_cell HTHx.out 3 (by decide)
              go_wp2
              refine bodyPost_ret (results_cell1 rfl _ rfl HL9.out) rfl ?_
              rw [HE.out]
              exact ⟨rfl, HB9.out⟩
            · have hl0i : ¬ (ld : Int) > 0 := by omega
              have HE : Hid (t = (11, k + 1, false)) := by rw [Hid, HT.out]; simp [hl0]
              clear HT
              have HL9 := Lib.hid (load_struct (P := Tryz.prog) (T := 109) vf w.heap.size [.int .i64 11, .int .i64 k, .int .i64 ((k : Int) + 1), .bool false] HTHf.out (by kernel_rfl) Tryz.underlying109 rfl)
              have HB9 := Lib.hid (below_setCells2 HBf.out w.heap.size (Nat.le_refl _) [.int .i64 11, .int .i64 k, .int .i64 ((k : Int) + 1), .bool false] 0)
              obtain ⟨⟨z0, hz0⟩, hf0⟩ := there_cell HTHf.out 0 (by decide)
              obtain ⟨⟨z1, hz1⟩, hf1⟩ := there_cell HTHf.out 1 (by decide)
              obtain ⟨⟨z2, hz2⟩, hf2⟩ := there_cell HTHf.out 2 (by decide)
              obtain ⟨⟨z3, hz3⟩, hf3⟩ := there_cell HTHf.out 3 (by decide)
              go_wp2
              refine bodyPost_ret (results_cell1 rfl _ rfl HL9.out) rfl ?_
              rw [HE.out]
              exact ⟨by simp [tokV], HB9.out⟩
set_option maxHeartbeats 400000 in
set_option maxRecDepth 100000 in
theorem LPlain_any (r : Int) (w : World) : Calls Tryz.prog 97 #[.int .i32 r] w fun e w' => e = .returned (.bool (isPlain r)) ∧ w = w' := by
  by_cases h1 : r = 60
  · subst h1
    go_enter Tryz.func97, Tryz.ntmps97
    go_wp2
    go_ret
    exact ⟨rfl, rfl⟩
  · have h1b : (r != 60) = true := by simpa using h1
    by_cases h2 : r = 38
    · subst h2
      clear h1
      go_enter Tryz.func97, Tryz.ntmps97
      go_wp2
      go_ret
      exact ⟨rfl, rfl⟩
    · have h2b : (r != 38) = true := by simpa using h2
      have HE : Hid (isPlain r = (r != -1)) := by rw [Hid, isPlain, h1b, h2b, Bool.true_and, Bool.true_and]
      clear h1 h2
      go_enter Tryz.func97, Tryz.ntmps97
      go_wp2
      go_ret
      exact ⟨ret_bool HE.out.symm, rfl⟩
theorem LPlain_ok (w : World) : PredOk Tryz.prog 97 #[] isPlain w := fun W r _ => (LPlain_any r W).mono fun _ _ ⟨h1, h2⟩ => ⟨h1, h2 ▸ Below.refl _ _⟩
theorem eg_LPlain : ∀ args w, (callFunc 97 args).run Tryz.prog w = .ok (.enter 97 args) w := enters_of Tryz.func97 (by kernel_rfl) rfl
set_option maxHeartbeats 4000000 in
set_option maxRecDepth 100000 in
theorem NextT_any (S : Nat → Prop) (A : Option Addr) (n c : Nat) (l : List Int) (k : Nat) (w : World) (hr : Rd w S 1 A n c (rc l)) (hk : k < l.length) (hl9 : l.length ≤ 1000000000) :
    Calls Tryz.prog 71 #[.slice A n c, .int .i64 k] w fun e w' => e = .returned (.tuple #[tokV (nextTF l k) k, .bool true]) ∧ Below w.heap.size w w' := by
  obtain rfl := hr.rlen
  have hle := hr.le
  have hmx : c ≤ 9223372036854775807 := hr.max
  by_cases h38 : l[k] = 38
  · have HE : nextTF l k = refF l k := by rw [nextTF, getD_at hk, h38]; rfl
    rw [HE]
    exact NextAmp_any S A _ c l k w hr (by rw [List.getElem?_eq_getElem hk, h38]) hl9
  · obtain ⟨b, o, rfl, hc0⟩ := hr.rune hk
    have hca := fun ob => cell_keep (ba w ob) hc0
    have hki : ¬ (k : Int) ≥ (l.length : Int) := by omega
    have hkj : (k : Int) < (l.length : Int) := by omega
    have HMK := fun W (h : Below w.heap.size w W) => Lib.hid (Markup_any S _ _ c l k W (hr.below h) hk hl9)
    have HMK : ∀ W, Below w.heap.size w W → Hid (Calls Tryz.prog 94 #[.slice (some ⟨b, o, none⟩) l.length c, .int .i64 k] W fun e w' => e = .returned (.agg #[.int .i64 (markupF l k).1, .int .i64 k, .int .i64 (markupF l k).2.1, .bool (markupF l k).2.2]) ∧ Below W.heap.size W w') := HMK
    have HRN := fun W (h : Below w.heap.size w W) => (Run_any S _ l.length c l k _ #[] isPlain W eg_LPlain (hr.below h) (LPlain_ok W))
    have hrn : runF isPlain l k = ((l.drop k).takeWhile isPlain).length := by rw [runF, if_neg (by omega), Int.toNat_natCast]
    rw [hrn] at HRN
    have HRN := fun W h => Lib.hid (HRN W h)
    have hrl := (List.takeWhile_sublist isPlain (l := l.drop k)).length_le
    rw [List.length_drop] at hrl
    have HT : Hid (nextTF l k = if l[k] = 60 then markupF l k else if l[k] = 38 then refF l k else if l[k] = -1 then (11, k + 1, false) else (1, k + ((l.drop k).takeWhile isPlain).length, true)) := by rw [Hid, nextTF, getD_at hk]
    clear hr hrn
    generalize nextTF l k = t at HT ⊢
    generalize markupF l k = mk at HMK HT
    generalize ((l.drop k).takeWhile isPlain).length = rn at HRN HT hrl
    obtain ⟨mka, mkb, mkc⟩ := mk
    generalize l[k] = r at hc0 hca HT h38
    have h38b : (r == 38) = false := by simpa using h38
    by_cases h60 : r = 60
    · have HE : Hid (t = (mka, mkb, mkc)) := by rw [Hid, HT.out, if_pos h60]
      subst h60
      clear HT h38 hc0 HRN
      go_enter Tryz.func71, Tryz.ntmps71
      go_wp2_with fail
      have HTH0 := Lib.hid (there_lit w #[.int .i64 0, .int .i64 0, .int .i64 0, .bool false] 109)
      have HB0 := Lib.hid (ba w (.cells #[.int .i64 0, .int .i64 0, .int .i64 0, .bool false] 109))
      have HSZ : Hid (w.heap.size < (w.alloc (.cells #[.int .i64 0, .int .i64 0, .int .i64 0, .bool false] 109)).heap.size) := by simp [Hid]
      generalize w.alloc (.cells #[.int .i64 0, .int .i64 0, .int .i64 0, .bool false] 109) = W0 at HTH0 HB0 HSZ
      refine (HMK _ HB0.out).out.mono ?_
      rintro e w1 ⟨rfl, hb1⟩
      have HB1 := Lib.hid (HB0.out.trans (hb1.mono HB0.out.size))
      have HTH1 : Hid (w1.there w.heap.size 0 4) := there_below HTH0.out hb1 HSZ.out
      clear hb1 HTH0 HSZ
      have HL9 := Lib.hid (load_struct (P := Tryz.prog) (T := 109) w1 w.heap.size [.int .i64 mka, .int .i64 k, .int .i64 (mkb), .bool mkc] HTH1.out (by kernel_rfl) Tryz.underlying109 rfl)
      have HB9 := Lib.hid (below_setCells2 HB1.out w.heap.size (Nat.le_refl _) [.int .i64 mka, .int .i64 k, .int .i64 (mkb), .bool mkc] 0)
      obtain ⟨⟨z0, hz0⟩, hf0⟩ := there_cell HTH1.out 0 (by decide)
      obtain ⟨⟨z1, hz1⟩, hf1⟩ := there_cell HTH1.out 1 (by decide)
      obtain ⟨⟨z2, hz2⟩, hf2⟩ := there_cell HTH1.out 2 (by decide)
      obtain ⟨⟨z3, hz3⟩, hf3⟩ := there_cell HTH1.out 3 (by decide)
      go_wp2
      refine bodyPost_ret (results_cell2 rfl _ rfl HL9.out) rfl ?_
      rw [HE.out]
      exact ⟨rfl, HB9.out⟩
    · have h60b : (r == 60) = false := by simpa using h60
      by_cases h1 : r = -1
      · have HE : Hid (t = (11, k + 1, false)) := by rw [Hid, HT.out, if_neg h60, if_neg h38, if_pos h1]
        subst h1
        clear HT h38 h60 hc0 HRN HMK
        have HL9 := Lib.hid (load_lit (P := Tryz.prog) (T := 109) w [.int .i64 11, .int .i64 k, .int .i64 ((k : Int) + 1), .bool false] (by kernel_rfl) Tryz.underlying109 rfl)
        have HB9 := Lib.hid (ba w (.cells #[.int .i64 11, .int .i64 k, .int .i64 ((k : Int) + 1), .bool false] 109))
        go_enter Tryz.func71, Tryz.ntmps71
        go_wp2
        refine bodyPost_ret (results_cell2 rfl _ rfl HL9.out) rfl ?_
        rw [HE.out]
        exact ⟨by simp [tokV], HB9.out⟩
      · have h1b : (r == -1) = false := by simpa using h1
        have HE : Hid (t = (1, k + rn, true)) := by rw [Hid, HT.out, if_neg h60, if_neg h38, if_neg h1]
        clear HT h38 h60 h1 hc0 HMK
        go_enter Tryz.func71, Tryz.ntmps71
        go_wp2_with fail
        have HTH0 := Lib.hid (there_lit w #[.int .i64 0, .int .i64 0, .int .i64 0, .bool false] 109)
        have HB0 := Lib.hid (ba w (.cells #[.int .i64 0, .int .i64 0, .int .i64 0, .bool false] 109))
        have HSZ : Hid (w.heap.size < (w.alloc (.cells #[.int .i64 0, .int .i64 0, .int .i64 0, .bool false] 109)).heap.size) := by simp [Hid]
        generalize w.alloc (.cells #[.int .i64 0, .int .i64 0, .int .i64 0, .bool false] 109) = W0 at HTH0 HB0 HSZ
        refine (HRN _ HB0.out).out.mono ?_
        rintro e w1 ⟨rfl, hb1⟩
        have HB1 := Lib.hid (HB0.out.trans (hb1.mono HB0.out.size))
        have HTH1 : Hid (w1.there w.heap.size 0 4) := there_below HTH0.out hb1 HSZ.out
        clear hb1 HTH0 HSZ
        have HL9 := Lib.hid (load_struct (P := Tryz.prog) (T := 109) w1 w.heap.size [.int .i64 1, .int .i64 k, .int .i64 ((k : Int) + (rn : Int)), .bool true] HTH1.out (by kernel_rfl) Tryz.underlying109 rfl)
        have HB9 := Lib.hid (below_setCells2 HB1.out w.heap.size (Nat.le_refl _) [.int .i64 1, .int .i64 k, .int .i64 ((k : Int) + (rn : Int)), .bool true] 0)
        obtain ⟨⟨z0, hz0⟩, hf0⟩ := there_cell HTH1.out 0 (by decide)
        obtain ⟨⟨z1, hz1⟩, hf1⟩ := there_cell HTH1.out 1 (by decide)
        obtain ⟨⟨z2, hz2⟩, hf2⟩ := there_cell HTH1.out 2 (by decide)
        obtain ⟨⟨z3, hz3⟩, hf3⟩ := there_cell HTH1.out 3 (by decide)
        go_wp2
        refine bodyPost_ret (results_cell2 rfl _ rfl HL9.out) rfl ?_
        rw [HE.out]
        exact ⟨by simp [tokV], HB9.out⟩
end Go.Proofs.YtaklahcbeldbhaaGreatDoor
namespace Go.Proofs.YtaklahcbeldbhaaGreatDoor
open Go.RowKit Go.Lib
theorem endGo_range (l : List Int) : ∀ (n k : Nat), l.length - k ≤ n → k ≤ l.length → k ≤ (endGo l k).1 ∧ (endGo l k).1 ≤ l.length := by
  intro n
  induction n with
  | zero =>
    intro k h hk
    rw [endGo_end l k (by omega)]
    simp only; omega
  | succ n ih =>
    intro k h hk
    by_cases hlt : k < l.length
    · by_cases h1 : l[k] = 62
      · rw [endGo_gt l k hlt h1]; simp only; omega
      · by_cases h2 : l[k] = 60
        · rw [endGo_lt l k hlt h2]; simp only; omega
        · have := ih (k + 1) (by omega) (by omega)
          rw [endGo_next l k hlt h1 h2]; omega
    · rw [endGo_end l k hlt]; simp only; omega
theorem docGo_range (l : List Int) : ∀ (n k : Nat) (ok : Bool), l.length - k ≤ n → k ≤ l.length → k ≤ (docGo l k ok).1 ∧ (docGo l k ok).1 ≤ l.length := by
  intro n
  induction n with
  | zero =>
    intro k ok h hk
    rw [docGo_end l k ok (by omega)]
    simp only; omega
  | succ n ih =>
    intro k ok h hk
    by_cases hlt : k < l.length ∧ ok = true
    · obtain ⟨hlt, rfl⟩ := hlt
      by_cases h1 : l[k] = 62
      · rw [docGo_hit l k hlt h1]; simp only; omega
      · cases h2 : isQuo l[k] with
        | true =>
          have := quotedF_gt l k hlt
          have := ih (quotedF l k).1 (quotedF l k).2 (by omega) (by omega)
          rw [docGo_quo l k hlt h1 h2]; omega
        | false =>
          by_cases h3 : l[k] = 91
          · have := subF_range l k hlt
            have := ih (subF l k).1 (subF l k).2 (by omega) (by omega)
            rw [docGo_sub l k hlt h3]; omega
          · have := ih (k + 1) true (by omega) (by omega)
            rw [docGo_next l k hlt h1 h2 h3]; omega
    · rw [docGo_end l k ok hlt]; simp only; omega
theorem markupF_range (l : List Int) (k : Nat) (hk : k < l.length) : k < (markupF l k).2.1 ∧ (markupF l k).2.1 ≤ l.length := by
  unfold markupF
  split
  · exact upToF_range l _ k _ _ hk (by decide)
  · split
    · exact upToF_range l _ k _ _ hk (by decide)
    · split
      · exact upToF_range l _ k _ _ hk (by decide)
      · split
        · rename_i h
          have h9 := starts_fits2 l k _ (by omega) h
          have h9 : k + 9 ≤ l.length := by simpa using h9
          have := docGo_range l l.length (k + 9) true (by omega) (by omega)
          unfold docTF; simp only; omega
        · split
          · rename_i h
            have h2 := starts_fits2 l k _ (by omega) h
            have h2 : k + 2 ≤ l.length := by simpa using h2
            have := endGo_range l l.length (k + 2) (by omega) (by omega)
            unfold endTF; simp only; omega
          · split
            · have h := angleF_range l true l.length (k + 1) (by omega) (by omega)
              unfold startTF
              split
              · simp only; omega
              · rename_i hb
                have := h.2.2 (by simpa using hb)
                split <;> (simp only; omega)
            · simp only; omega
theorem nextTF_range (l : List Int) (k : Nat) (hk : k < l.length) : k < (nextTF l k).2.1 ∧ (nextTF l k).2.1 ≤ l.length := by
  unfold nextTF
  rw [getD_at hk]
  split
  · exact markupF_range l k hk
  · split
    · exact ⟨refF_pos l k, refF_le l k hk⟩
    · split
      · simp only; omega
      · rename_i h1 h2 h3
        have hp : isPlain l[k] = true := by simp [isPlain, h1, h2, h3]
        have hs := (List.takeWhile_sublist isPlain (l := l.drop k)).length_le
        rw [List.length_drop] at hs
        rw [List.drop_eq_getElem_cons hk, List.takeWhile_cons, hp] at hs ⊢
        simp only [if_true, List.length_cons] at hs ⊢
        omega
def tokensGo (l : List Int) (k : Nat) : List ((Nat × Nat × Bool) × Nat) := if h : k < l.length then (nextTF l k, k) :: tokensGo l (nextTF l k).2.1 else []
termination_by l.length - k
decreasing_by
  have := nextTF_range l k h; omega
theorem tokensGo_cons (l : List Int) (k : Nat) (h : k < l.length) : tokensGo l k = (nextTF l k, k) :: tokensGo l (nextTF l k).2.1 := by
  conv => lhs; rw [tokensGo]
  rw [dif_pos h]
theorem tokensGo_nil (l : List Int) (k : Nat) (h : ¬ k < l.length) : tokensGo l k = [] := by rw [tokensGo, dif_neg h]
end Go.Proofs.YtaklahcbeldbhaaGreatDoor
namespace Go.Proofs.YtaklahcbeldbhaaGreatDoor
open Go.RowKit Go.Lib
theorem sb_size : (Tryz.prog.info? 57).map (·.size) = some 2 := by kernel_rfl
theorem sb_lies : liesAt Tryz.prog Tryz.prog.depth 57 (2 / Tryz.prog.cellsOf 57) 0 57 1 = true := by kernel_rfl
theorem sb_cellsByte : Tryz.prog.cellsOf 5 = 1 := by kernel_rfl
set_option maxHeartbeats 1000000 in
set_option maxRecDepth 100000 in
theorem CC_used (b : Nat) (w : World) (h0 : w.cell? ⟨b, 0, none⟩ = some (.pointer (some ⟨b, 0, none⟩))) :
    Calls Tryz.prog 37 #[.pointer (some ⟨b, 0, none⟩)] w fun e w' => e = .returned (.tuple #[]) ∧ w' = w := by
  obtain ⟨j, hj, _⟩ := Option.map_eq_some_iff.1 sb_size
  go_enter Tryz.func37, Tryz.ntmps37
  go_wp2
  rw [Lib.run_neq_ptr_same w _ Tryz.underlying55 hj]
  go_wp2
  go_end0
  exact ⟨rfl, rfl⟩
set_option maxHeartbeats 1000000 in
set_option maxRecDepth 100000 in
theorem CC_fresh (b : Nat) (w : World) (h0 : w.cell? ⟨b, 0, none⟩ = some (.pointer none)) (hsh : w.shape? b = some (57, 2)) (hfz : w.frozen? ⟨b, 0, none⟩ = false) :
    Calls Tryz.prog 37 #[.pointer (some ⟨b, 0, none⟩)] w fun e w' => e = .returned (.tuple #[]) ∧ w' = w.setCell ⟨b, 0, none⟩ (.pointer (some ⟨b, 0, none⟩)) := by
  obtain ⟨j, hj, hjs⟩ := Option.map_eq_some_iff.1 sb_size
  go_enter Tryz.func37, Tryz.ntmps37
  go_wp2
  rw [Lib.run_to_unsafe w ⟨b, 0, none⟩ Tryz.underlying55 Tryz.underlying135 hj (by rw [hjs]; decide) hsh (Nat.zero_lt_succ 1)]
  simp only [Result.andThen]
  rw [Oper.upon_value]
  go_wp2
  rw [run_callFunc_extern Tryz.func64 (by kernel_rfl) (by kernel_rfl) (by kernel_rfl) (e := Extern.AbiNoEscape.same) (by kernel_rfl)]
  rw [Lib.run_noEscape]
  simp only [Result.andThen]
  rw [Oper.upon_value]
  go_wp2
  rw [Lib.run_from_unsafe w ⟨b, 0, none⟩ Tryz.underlying135 Tryz.underlying55 hj hsh sb_lies]
  simp only [Result.andThen]
  rw [Oper.upon_value]
  go_wp2
  go_end0
  exact ⟨rfl, rfl⟩
def Sb (B b : Nat) (xs : List UInt8) (w : World) : Prop := Lib.IsBuilder 57 5 B b (bc xs) w
theorem CC_any (B b : Nat) (xs : List UInt8) (w : World) (h : Sb B b xs w) :
    Calls Tryz.prog 37 #[.pointer (some ⟨b, 0, none⟩)] w fun e w' => e = .returned (.tuple #[]) ∧ Lib.BuilderAt 57 5 B b (.pointer (some ⟨b, 0, none⟩)) (bc xs) w' ∧ Below B w w' ∧ ∀ k, k ≠ b → w'.heap[k]? = w.heap[k]? := by
  rcases h with h | h
  · refine (CC_fresh b w h.cell0 h.shape h.frozen0).mono ?_
    rintro e w' ⟨rfl, rfl⟩
    exact ⟨rfl, h.used _, (Below.refl B w).setCell (p := ⟨b, 0, none⟩) h.1 _, fun k hk => Below.heap_setCell _ _ _ _ hk⟩
  · refine (CC_used b w h.cell0).mono ?_
    rintro e w' ⟨rfl, rfl⟩
    exact ⟨rfl, h, Below.refl B _, fun _ _ => rfl⟩
set_option maxHeartbeats 2000000 in
set_option maxRecDepth 100000 in
theorem SbWrite_any (S : Nat → Prop) (A : Option Addr) (n c B b : Nat) (xs ys : List UInt8) (w : World) (h : Sb B b xs w) (hr : Rd w S 1 A n c (bc ys)) (hS : ¬ S b) (hlen : xs.length + ys.length ≤ 1000000000) (hBw : B ≤ w.heap.size) :
    Calls Tryz.prog 62 #[.pointer (some ⟨b, 0, none⟩), .slice A n c] w fun e w' => e = .returned (.tuple #[.int .i64 n, .nilIface]) ∧ Sb B b (xs ++ ys) w' ∧ Below B w w' := by
  have hn : n = ys.length := by have := hr.len; simpa using this.symm
  subst hn
  have HR := Lib.hid hr
  have hcm : c ≤ 9223372036854775807 := hr.max
  have hle := hr.le
  clear hr
  go_enter Tryz.func62, Tryz.ntmps62
  go_wp2_with (go_at_call 37; refine (CC_any B b xs w h).mono ?_)
  rintro e w1 ⟨rfl, h1, hb1, hk1⟩
  obtain ⟨hB, v, hbk, hown, hne⟩ := h1
  have c0 : w1.cell? ⟨b, 0, none⟩ = some (.pointer (some ⟨b, 0, none⟩)) := by rw [Lib.cell_of_heap hbk]; rfl
  have c1 : w1.cell? ⟨b, 1, none⟩ = some v := by rw [Lib.cell_of_heap hbk]; rfl
  have HR1 := Lib.hid (HR.out.keep fun k hk _ => hk1 k (fun e => hS (e ▸ hk)))
  have hs1 : B ≤ w1.heap.size := by have := hb1.size; omega
  have hxl : (bc xs).length = xs.length := by simp
  rw [hxl] at hown
  obtain ⟨A0, c2, rfl, hro⟩ := own_form hown
  have hc2m : c2 ≤ 9223372036854775807 := hro.max
  have HO := Lib.hid hown
  clear hown hro hk1 HR h
  go_wp2_with (at_builtin; refine append_bytes _ rfl (.tmp 12) (.tmp 13) rfl B _ _ _ rfl HO.out S _ _ _ ys rfl HR1.out (by omega) hs1 ?_)
  intro A4 c4 w4 hown4 hg4 hc4
  have hlt : b < w1.heap.size := by
    rcases Nat.lt_or_ge b w1.heap.size with h' | h'
    · exact h'
    · simp [Array.getElem?_eq_none h'] at hbk
  have hb2 : w4.heap[b]? = some (.cells #[.pointer (some ⟨b, 0, none⟩), .slice A0 xs.length c2] 57 (0, 0)) := by
    rw [hg4.block b hlt (fun e => hne e.symm)]
    exact hbk
  have d0 : w4.cell? ⟨b, 0, none⟩ = some (.pointer (some ⟨b, 0, none⟩)) := by rw [Lib.cell_of_heap hb2]; rfl
  have d1 : w4.cell? ⟨b, 1, none⟩ = some (.slice A0 xs.length c2) := by rw [Lib.cell_of_heap hb2]; rfl
  have f1 : w4.frozen? ⟨b, 1, none⟩ = false := Lib.frozen_of_heap hb2 1
  have HB4 := Lib.hid (below_own hb1 hs1 HO.out hg4)
  have HO4 := Lib.hid hown4
  clear hown4 hg4
  go_wp2
  go_ret2
  refine ⟨rfl, .inr ?_, HB4.out.setCell (p := ⟨b, 1, none⟩) hB _⟩
  exact Lib.BuilderAt.put hB hb2 (by simpa [bc] using HO4.out) (by decide)
set_option maxHeartbeats 1000000 in
set_option maxRecDepth 100000 in
theorem SbString_any (B b : Nat) (l : List UInt8) (w : World) (h : Sb B b l w) (h0 : l ≠ []) :
    Calls Tryz.prog 22 #[.pointer (some ⟨b, 0, none⟩)] w fun e w' => e = .returned (.string ⟨l.toArray⟩) ∧ Below B w w' := by
  obtain ⟨p, hB, v, hbk, hown, hne⟩ : ∃ p, Lib.BuilderAt 57 5 B b p (bc l) w := by
    rcases h with h | h
    · exact ⟨_, h⟩
    · exact ⟨_, h⟩
  have hl0 : l.length ≠ 0 := by simpa using h0
  have hxl : (bc l).length = l.length := by simp
  rw [hxl] at hown
  obtain ⟨g, cap, cur, rfl, hbg, hg, hnc, hcm, hcs, htake⟩ : ∃ g cap cur, v = .slice (some ⟨g, 0, none⟩) l.length cap ∧ B ≤ g ∧ w.heap[g]? = some (.cells cur 5 (0, 0)) ∧ l.length ≤ cap ∧ cap ≤ maxLen ∧ cur.size = cap * 1 ∧ cur.toList.take (l.length * 1) = bc l := by
    rcases hown.2 with ⟨_, hz⟩ | ⟨g, cap, cur, hv, r⟩
    · exact absurd hz hl0
    · exact ⟨g, cap, cur, hv, r⟩
  have c1 : w.drew.cell? ⟨b, 1, none⟩ = some (.slice (some ⟨g, 0, none⟩) l.length cap) := by
    have : w.drew.heap[b]? = some (.cells #[p, .slice (some ⟨g, 0, none⟩) l.length cap] 57 (0, 0)) := hbk
    rw [Lib.cell_of_heap this]; rfl
  have hSD : (Builtin.unsafeSliceData_ #[45] 93 #[.slice (some ⟨g, 0, none⟩) l.length cap]).run Tryz.prog w.drew = .ok (.pointer (some ⟨g, 0, none⟩)) w.drew :=
    Lib.run_unsafeSliceData_row _ _ _ _ _ _ (by omega)
  have hUS : (Builtin.unsafeString_ #[93, 3] 9 #[.pointer (some ⟨g, 0, none⟩), .int .i64 l.length]).run Tryz.prog w.drew = .ok (.string ⟨l.toArray⟩) (w.drew.freeze ⟨g, 0, none⟩ l.length) := by
    refine Lib.run_unsafeString_row w.drew 93 3 9 5 Tryz.underlying93 sb_cellsByte g cur.size (by have hg' : w.drew.heap[g]? = some (.cells cur 5 (0, 0)) := hg; simp [World.shape?, hg']) l h0 (by omega) (by unfold maxLen at hcm; omega) ?_
    intro j x hx
    have := hown.cells (g := g) rfl j (.int .u8 x.toNat) (by simp [bc, hx])
    exact this
  go_enter Tryz.func22, Tryz.ntmps22
  go_wp2
  go_region
  all_goals (go_wp2; go_ret; exact ⟨rfl, Lib.below_freeze (Below.drew (Below.refl B w)) (p := ⟨g, 0, none⟩) hbg _⟩)
end Go.Proofs.YtaklahcbeldbhaaGreatDoor
namespace Go.Proofs.YtaklahcbeldbhaaGreatDoor
open Go.RowKit Go.Lib
def strF (l : List Int) : List UInt8 := l.flatMap fun x => if x = -1 then [] else bytesF [x]
theorem strF_step (l : List Int) {k : Nat} (h : k < l.length) : strF (l.take (k + 1)) = strF (l.take k) ++ (if l[k] = -1 then [] else bytesF [l[k]]) := by
  rw [strF, strF, List.take_succ_eq_append_getElem h, List.flatMap_append]; simp
theorem strF_len (l : List Int) : (strF l).length ≤ 4 * l.length := by
  induction l with
  | nil => exact Nat.zero_le _
  | cons x r ih =>
    have h1 : (if x = -1 then ([] : List UInt8) else bytesF [x]).length ≤ 4 := by
      split
      · exact Nat.zero_le _
      · have := bytesF_len [x]; simpa using this
    have e : strF (x :: r) = (if x = -1 then [] else bytesF [x]) ++ strF r := rfl
    rw [e, List.length_append, List.length_cons]
    omega
theorem Sb.below {B b : Nat} {xs : List UInt8} {w w' : World} (h : Sb B b xs w) (hb : Below w.heap.size w w') : Sb B b xs w' := by
  have key : ∀ p, Lib.BuilderAt 57 5 B b p (bc xs) w → Lib.BuilderAt 57 5 B b p (bc xs) w' := by
    rintro p ⟨hB, v, hbk, hown, hne⟩
    have hlt : b < w.heap.size := Lib.BuilderAt.lt ⟨hB, v, hbk, hown, hne⟩
    exact ⟨hB, v, by rw [hb.block b hlt]; exact hbk, own_below hown hb, hne⟩
  exact h.imp (key _) (key _)
theorem Sb.lt {B b : Nat} {xs : List UInt8} {w : World} (h : Sb B b xs w) : b < w.heap.size := by
  rcases h with h | h
  · exact h.lt
  · exact h.lt
set_option maxHeartbeats 2000000 in
set_option maxRecDepth 100000 in
theorem TIn_any (A : Option Addr) (n c i j : Nat) (w : World) (hij : i ≤ j) (hj : j ≤ n) :
    Calls Tryz.prog 61 #[.agg #[.int .i64 0, .int .i64 0, .slice A n c, .slice none 0 0], .int .i64 i, .int .i64 j] w fun e w' => e = .returned (.bool true) ∧ Below w.heap.size w w' := by
  go_enter Tryz.func61, Tryz.ntmps61
  go_wp2
  go_ret
  exact ⟨rfl, (Below.refl _ w).alloc (Nat.le_refl _) _⟩
set_option maxHeartbeats 2000000 in
set_option maxRecDepth 100000 in
theorem TString_any (S : Nat → Prop) (A : Option Addr) (n c : Nat) (l : List Int) (i j : Nat) (w : World) (hr : Rd w S 1 A n c (rc l)) (hij : i ≤ j) (hj : j ≤ l.length) (hl : l.length ≤ 1000000) (hne : strF ((l.drop i).take (j - i)) ≠ []) :
    Calls Tryz.prog 36 #[.agg #[.int .i64 0, .int .i64 0, .slice A n c, .slice none 0 0], .int .i64 i, .int .i64 j] w fun e w' => e = .returned (.string ⟨(strF ((l.drop i).take (j - i))).toArray⟩) ∧ Below w.heap.size w w' := by
  obtain rfl := hr.rlen
  have hle := hr.le
  have hmx : c ≤ 9223372036854775807 := hr.max
  obtain ⟨A2, hr2, hcut⟩ := hr.cutLH (P := Tryz.prog) (t := 37) Tryz.underlying37 Tryz.sizeOf21 hij hj
  have hrc : ((rc l).drop (i * 1)).take ((j - i) * 1) = rc ((l.drop i).take (j - i)) := by simp [rc, List.map_take, List.map_drop]
  rw [hrc] at hr2
  obtain ⟨s, hs⟩ : ∃ s, s = (l.drop i).take (j - i) := ⟨_, rfl⟩
  rw [← hs] at hr2 hne ⊢
  have hsl : s.length = j - i := by rw [hs, List.length_take, List.length_drop]; omega
  have HR := Lib.hid hr2
  have HC := Lib.hid hcut
  clear hr hr2 hrc hs hcut
  go_enter Tryz.func36, Tryz.ntmps36
  go_wp2_with (go_at_call 61; refine (TIn_any _ _ _ _ _ _ hij hj).mono ?_)
  rintro e w1 ⟨rfl, hb1⟩
  have HB1 := Lib.hid (bt (ba w _) hb1)
  have hc0 : w1.cell? ⟨w.heap.size, 2, none⟩ = some (.slice A l.length c) := cell_keep hb1 (box_cell w _ _ 2 rfl)
  have hlt0 : w.heap.size < w1.heap.size := World.block_lt_of_cell? w1 _ hc0
  have hc1 : (w1.alloc (.cells #[.pointer none, .slice none 0 0] 57)).cell? ⟨w.heap.size, 2, none⟩ = some (.slice A l.length c) := cell_keep ((Below.refl _ w1).alloc (Nat.le_refl _) _) hc0
  have HSB : Hid (Sb w1.heap.size w1.heap.size [] (w1.alloc (.cells #[.pointer none, .slice none 0 0] 57))) := Lib.fresh_isBuilder 57 5 w1
  have hcut := HC.out
  clear hb1 hc0
  go_wp2
  clear hcut
  go_loopw [21] (fun q wr => ∃ (k : Nat), k ≤ s.length ∧ q = .int .i64 k ∧ Hid (Sb w1.heap.size w1.heap.size (strF (s.take k)) wr) ∧ Hid (Below w1.heap.size w1 wr))
    (fun q _ => s.length - (RowKit.intOf q).toNat)
  case atStart => exact ⟨0, Nat.zero_le _, rfl, HSB.out, ba w1 _⟩
  case round =>
    obtain ⟨k, hk, rfl, HO, HB⟩ := hrel
    have hsz := HB.out.size
    have hblt := HO.out.lt
    have hfl := strF_len (s.take k)
    rw [List.length_take] at hfl
    by_cases hlt : k < s.length
    · obtain ⟨b, u, rfl, hc2⟩ := (HR.out.below (bt HB1.out HB.out)).rune hlt
      have HST := Lib.hid (strF_step s hlt)
      generalize s[k] = r at hc2 HST
      by_cases hb : r = -1
      · have hS2 : strF (s.take (k + 1)) = strF (s.take k) := by rw [HST.out, if_pos hb, List.append_nil]
        have HST2 := Lib.hid hS2
        clear HST hS2
        subst hb
        go_wp2
        go_roundw
        case rel => exact ⟨k + 1, by omega, by go_num, by rw [HST2.out]; exact HO.out, HB.out⟩
        case measure => simp [RowKit.intOf]; omega
      · have hS2 : strF (s.take (k + 1)) = strF (s.take k) ++ bytesF [r] := by rw [HST.out, if_neg hb]
        have HST2 := Lib.hid hS2
        clear HST hS2
        have hbl := bytesF_len [r]
        simp only [List.length_singleton] at hbl
        have hsa : (wr.alloc (.cells #[.int .i32 r] 21)).heap.size = wr.heap.size + 1 := by simp
        go_wp2_with fail
        refine (Bytes_any _ _ 1 1 [r] _ (Rd.litN wr wr.heap.size rfl _ #[.int .i32 r] 1 1 rfl (by decide)) (by simp)).mono ?_
        rintro e w2 ⟨v, rfl, ⟨n2, hown⟩, hb2⟩
        have hn2 := bc_own_len hown
        obtain ⟨A3, c3, rfl, hro⟩ := own_form hown
        have HO2 := Lib.hid ((HO.out.below (ba wr _)).below hb2)
        have HB2 := Lib.hid (bb (bb HB.out (ba wr _) hsz) hb2 (by omega))
        have hsz2 := HB2.out.size
        have HRO := Lib.hid hro
        have hc3 : c3 ≤ 9223372036854775807 := hro.max
        subst hn2
        clear hown hb2 hro
        go_wp2_with fail
        refine (SbWrite_any _ A3 _ c3 w1.heap.size w1.heap.size (strF (s.take k)) (bytesF [r]) w2 HO2.out HRO.out (by omega) (by omega) hsz2).mono ?_
        rintro e w3 ⟨rfl, h3, hb3⟩
        have HO3 := Lib.hid h3
        have HB3 := Lib.hid (HB2.out.trans hb3)
        clear h3 hb3
        go_wp2
        go_roundw
        case rel => exact ⟨k + 1, by omega, by go_num, by rw [HST2.out]; exact HO3.out, HB3.out⟩
        case measure => simp [RowKit.intOf]; omega
    · have e : s.take k = s := List.take_of_length_le (by omega)
      rw [e] at HO
      go_wp2_with fail
      refine (SbString_any w1.heap.size w1.heap.size (strF s) wr HO.out hne).mono ?_
      rintro e w3 ⟨rfl, hb3⟩
      have HB3 := Lib.hid (HB.out.trans hb3)
      clear hb3
      go_wp2
      go_ret
      exact ⟨rfl, HB1.out.trans (HB3.out.mono HB1.out.size)⟩
end Go.Proofs.YtaklahcbeldbhaaGreatDoor
namespace Go.Proofs.YtaklahcbeldbhaaGreatDoor
open Go.Lib
def zdg (n : Nat) : List UInt8 := if n < 10 then [UInt8.ofNat (48 + n)] else zdg (n / 10) ++ [UInt8.ofNat (48 + n % 10)]
termination_by n
decreasing_by omega
def zwor : Nat → List UInt8 → Option Nat
  | n, [] => some n
  | n, c :: r => if 48 ≤ c.toNat ∧ c.toNat ≤ 57 then zwor (10 * n + (c.toNat - 48)) r else none
theorem zu8_dig (c : UInt8) (h0 : 48 ≤ c.toNat) : UInt8.ofNat (48 + (c.toNat - 48)) = c := by
  rw [show 48 + (c.toNat - 48) = c.toNat by omega]; simp
theorem zwor_app : ∀ (a b : List UInt8) (n : Nat), zwor n (a ++ b) = (zwor n a).bind fun m => zwor m b
  | [], b, n => rfl
  | c :: r, b, n => by
    rw [List.cons_append, zwor, zwor]
    split
    · exact zwor_app r b _
    · rfl
theorem zdg_ne (n : Nat) : zdg n ≠ [] := by
  rw [zdg]; split <;> simp
theorem zdg_head (n : Nat) (h : n ≠ 0) : (zdg n)[0]? ≠ some 48 := by
  induction n using Nat.strongRecOn with
  | _ n ih =>
    rw [zdg]
    split
    · rename_i h2
      have : ∀ n : Nat, n < 10 → n ≠ 0 → ([UInt8.ofNat (48 + n)] : List UInt8)[0]? ≠ some 48 := by decide
      exact this n h2 h
    · rename_i h2
      have hl : 0 < (zdg (n / 10)).length := List.length_pos_iff.2 (zdg_ne _)
      rw [List.getElem?_append_left hl]
      exact ih (n / 10) (by omega) (by omega)
theorem zdg_le : ∀ n k : Nat, 1 ≤ k → n < 10 ^ k → (zdg n).length ≤ k := by
  intro n
  induction n using Nat.strongRecOn with
  | _ n ih =>
    intro k hk hn
    rw [zdg]
    split
    · simpa using hk
    · rename_i h
      rw [List.length_append, List.length_singleton]
      obtain ⟨k', rfl⟩ : ∃ k', k = k' + 1 := ⟨k - 1, by omega⟩
      have h1 : n / 10 < 10 ^ k' := by rw [Nat.pow_succ] at hn; omega
      have h2 : 1 ≤ k' := by
        rcases Nat.eq_zero_or_pos k' with rfl | h2
        · simp at hn; omega
        · exact h2
      have := ih (n / 10) (by omega) k' h2 h1
      omega
theorem zdg_wor (w : List UInt8) : ∀ n, w ≠ [] → zwor 0 w = some n → ¬ (1 < w.length ∧ w[0]? = some 48) → zdg n = w := by
  induction hk : w.length generalizing w with
  | zero => intro n h; exact absurd (List.eq_nil_of_length_eq_zero hk) h
  | succ k ih =>
    intro n hne hw hd
    obtain ⟨v, c, rfl⟩ : ∃ v c, w = v ++ [c] := ⟨w.dropLast, w.getLast hne, (List.dropLast_concat_getLast hne).symm⟩
    rw [List.length_append, List.length_singleton] at hk
    have hk : v.length = k := by omega
    rw [zwor_app] at hw
    by_cases hv : v = []
    · subst hv
      rw [zwor, Option.bind_some, zwor] at hw
      split at hw
      · rename_i hc
        rw [zwor] at hw
        have hn : n = c.toNat - 48 := by have := Option.some.inj hw; omega
        rw [zdg, if_pos (by omega), hn, zu8_dig c hc.1]; rfl
      · cases hw
    · have hvl : 0 < v.length := List.length_pos_iff.2 hv
      cases hm : zwor 0 v with
      | none => rw [hm] at hw; cases hw
      | some m =>
        rw [hm, Option.bind_some, zwor] at hw
        split at hw
        · rename_i hc
          rw [zwor] at hw
          have hn : n = 10 * m + (c.toNat - 48) := (Option.some.inj hw).symm
          have h0 : ¬ v[0]? = some 48 := fun h => hd ⟨by omega, by rw [List.getElem?_append_left hvl]; exact h⟩
          have hdv := ih v hk m hv hm (fun h => h0 h.2)
          have hm0 : m ≠ 0 := by
            intro h; subst h
            rw [zdg, if_pos (by decide)] at hdv
            exact h0 (by rw [← hdv]; rfl)
          rw [zdg, if_neg (by omega), show n / 10 = m by omega, hdv, show n % 10 = c.toNat - 48 by omega, zu8_dig c hc.1]
        · cases hw
def zvP (w : List UInt8) : Option Nat := if w = [] ∨ 9 < w.length ∨ (1 < w.length ∧ w[0]? = some 48) then none else zwor 0 w
def zvR (w : List UInt8) : Option Nat := if 9 < w.length then none else (zwor 0 w).bind fun n => if w = [] ∨ zdg n ≠ w then none else some n
theorem zv_eq (w : List UInt8) : zvP w = zvR w := by
  rw [zvP, zvR]
  by_cases h9 : 9 < w.length
  · rw [if_pos (.inr (.inl h9)), if_pos h9]
  rw [if_neg h9]
  by_cases hn : w = []
  · subst hn; rfl
  by_cases h0 : 1 < w.length ∧ w[0]? = some 48
  · rw [if_pos (.inr (.inr h0))]
    cases hw : zwor 0 w with
    | none => rfl
    | some n =>
      rw [Option.bind_some, if_pos]
      refine .inr fun hd => ?_
      by_cases hz : n = 0
      · subst hz
        rw [zdg, if_pos (by decide)] at hd
        have := h0.1
        rw [← hd] at this
        simp at this
      · exact zdg_head n hz (by rw [hd]; exact h0.2)
  · rw [if_neg (by simp only [not_or]; exact ⟨hn, h9, h0⟩)]
    cases hw : zwor 0 w with
    | none => rfl
    | some n =>
      rw [Option.bind_some, if_neg]
      simp only [not_or, Classical.not_not]
      exact ⟨hn, zdg_wor w n hn hw h0⟩
def zspl : List UInt8 → List UInt8 → List (List UInt8)
  | w, [] => [w]
  | w, c :: r => if c = 47 then w :: zspl [] r else zspl (w ++ [c]) r
def zvals : List (List UInt8) → Option (List Int)
  | [] => some []
  | w :: r => (zvP w).bind fun n => (zvals r).map fun l => (n : Int) :: l
def zrd (s : List UInt8) : Option (List Int) := if s = [46] then some [] else zvals (zspl [] s)
theorem zindex_cons_ne (b c : UInt8) (l : List UInt8) (h : b ≠ c) : index (b :: l) [c] = if index l [c] == -1 then -1 else index l [c] + 1 := by
  have hp : ([c] : List UInt8).isPrefixOf (b :: l) = false := by simp [List.isPrefixOf, Ne.symm h]
  rw [index, hp]; simp
theorem zspl_split : ∀ (s w : List UInt8), ∃ x r, splitK [47] 0 (count s [47]) s = x :: r ∧ zspl w s = (w ++ x) :: r
  | [], w => ⟨[], [], by rw [count_miss (by simp [index])]; rfl, by rw [List.append_nil]; rfl⟩
  | c :: l, w => by
    by_cases h : c = 47
    · subst h
      obtain ⟨x, r, h1, h2⟩ := zspl_split l []
      have hix : index (47 :: l) [47] = 0 := by rw [index]; simp [List.isPrefixOf]
      refine ⟨[], x :: r, ?_, ?_⟩
      · rw [count_cons_eq, Nat.add_comm, splitK, if_neg (by rw [hix]; decide), hix, ← h1]; rfl
      · rw [zspl, if_pos rfl, h2, List.append_nil]; rfl
    · obtain ⟨x, r, h1, h2⟩ := zspl_split l (w ++ [c])
      rw [zspl, if_neg h, h2, count_cons_ne c 47 l h]
      have hc := zindex_cons_ne c 47 l h
      cases hk : count l [47] with
      | zero =>
        rw [hk, splitK] at h1
        rw [splitK]
        obtain ⟨rfl, rfl⟩ := List.cons.inj h1
        exact ⟨_, _, rfl, by rw [List.append_assoc]; rfl⟩
      | succ k =>
        rw [hk, splitK] at h1
        have hm : ¬ (index l [47] == -1) = true := fun e => by
          rw [count_miss (beq_iff_eq.1 e)] at hk; cases hk
        have hge := index_ge l [47]
        have hne : index l [47] ≠ -1 := fun e => hm (beq_iff_eq.2 e)
        obtain ⟨j, hj⟩ : ∃ j : Nat, index l [47] = j := ⟨(index l [47]).toNat, by omega⟩
        rw [if_neg hm] at hc h1
        rw [splitK, hc, hj, if_neg (by rw [beq_iff_eq]; omega)]
        rw [hj] at h1
        obtain ⟨hx, hr⟩ := List.cons.inj h1
        have e1 : ((j : Int) + 1).toNat = j + 1 := by omega
        have e2 : (j : Int).toNat = j := by omega
        rw [e2] at hx hr
        rw [e1]
        refine ⟨c :: x, r, ?_, by rw [List.append_assoc]; rfl⟩
        rw [← hx, ← hr]; rfl
theorem splitB_zspl (s : ByteArray) : (splitB ⟨#[47]⟩ 0 (countB s ⟨#[47]⟩) s).map (·.data.toList) = zspl [] s.data.toList := by
  rw [splitB_data]
  obtain ⟨x, r, h1, h2⟩ := zspl_split s.data.toList []
  rw [h2]; exact h1
end Go.Proofs.YtaklahcbeldbhaaGreatDoor
namespace Go.Proofs.YtaklahcbeldbhaaGreatDoor
open Go.Shelf
def lSplit_ren : Go.Shelf.Ren := ⟨fun | 221 => 23 | 268 => 39 | 138 => 40 | 143 => 41 | 195 => 66 | 197 => 67 | 218 => 68 | 219 => 69 | 260 => 88 | 217 => 89 | 225 => 90 | 224 => 91 | 267 => 92 | 266 => 106 | 314 => 107 | n => n, fun | 9 => 9 | 3 => 3 | 31 => 31 | 4 => 4 | 0 => 0 | 105 => 138 | 21 => 21 | 5 => 5 | 46 => 155 | 119 => 168 | 139 => 171 | 138 => 170 | 146 => 173 | 51 => 172 | n => n, fun | 1 => 0 | 3 => 1 | 4 => 2 | n => n⟩
theorem lSplit : Go.Proofs.Lays.n221 Tryz.prog lSplit_ren := {
  mixed := by kernel_rfl
  f138 := Tryz.func40.trans (congrArg some (by kernel_rfl))
  f143 := Tryz.func41.trans (congrArg some (by kernel_rfl))
  f195 := Tryz.func66.trans (congrArg some (by kernel_rfl))
  f197 := Tryz.func67.trans (congrArg some (by kernel_rfl))
  f217 := Tryz.func89.trans (congrArg some (by kernel_rfl))
  f218 := Tryz.func68.trans (congrArg some (by kernel_rfl))
  f219 := Tryz.func69.trans (congrArg some (by kernel_rfl))
  f221 := Tryz.func23.trans (congrArg some (by kernel_rfl))
  f224 := Tryz.func91.trans (congrArg some (by kernel_rfl))
  f225 := Tryz.func90.trans (congrArg some (by kernel_rfl))
  f260 := Tryz.func88.trans (congrArg some (by kernel_rfl))
  f266 := Tryz.func106.trans (congrArg some (by kernel_rfl))
  f267 := Tryz.func92.trans (congrArg some (by kernel_rfl))
  f268 := Tryz.func39.trans (congrArg some (by kernel_rfl))
  f314 := Tryz.func107.trans (congrArg some (by kernel_rfl))
  t0 := Tryz.underlying0
  a0 := Tryz.isAgg0
  z0 := Tryz.sizeOf0
  v0 := Tryz.zeroValue0
  t3 := Tryz.underlying3
  a3 := Tryz.isAgg3
  z3 := Tryz.sizeOf3
  v3 := Tryz.zeroValue3
  t4 := Tryz.underlying4
  a4 := Tryz.isAgg4
  z4 := Tryz.sizeOf4
  v4 := Tryz.zeroValue4
  t5 := Tryz.underlying5
  a5 := Tryz.isAgg5
  z5 := Tryz.sizeOf5
  v5 := Tryz.zeroValue5
  t9 := Tryz.underlying9
  a9 := Tryz.isAgg9
  z9 := Tryz.sizeOf9
  v9 := Tryz.zeroValue9
  t21 := Tryz.underlying21
  a21 := Tryz.isAgg21
  z21 := Tryz.sizeOf21
  v21 := Tryz.zeroValue21
  t31 := Tryz.underlying31
  a31 := Tryz.isAgg31
  z31 := Tryz.sizeOf31
  v31 := Tryz.zeroValue31
  t46 := Tryz.underlying155
  a46 := Tryz.isAgg155
  z46 := Tryz.sizeOf155
  v46 := Tryz.zeroValue155
  t51 := Tryz.underlying172
  a51 := Tryz.isAgg172
  z51 := Tryz.sizeOf172
  v51 := Tryz.zeroValue172
  t105 := Tryz.underlying138
  a105 := Tryz.isAgg138
  z105 := Tryz.sizeOf138
  v105 := Tryz.zeroValue138
  t119 := Tryz.underlying168
  a119 := Tryz.isAgg168
  z119 := Tryz.sizeOf168
  t138 := Tryz.underlying170
  a138 := Tryz.isAgg170
  z138 := Tryz.sizeOf170
  v138 := Tryz.zeroValue170
  t139 := Tryz.underlying171
  a139 := Tryz.isAgg171
  z139 := Tryz.sizeOf171
  v139 := Tryz.zeroValue171
  t146 := Tryz.underlying173
  a146 := Tryz.isAgg173
  z146 := Tryz.sizeOf173
  v146 := Tryz.zeroValue173
  g1 := by kernel_rfl
  g3 := by kernel_rfl
  g4 := by kernel_rfl }
def lIndex_ren : Go.Shelf.Ren := ⟨fun | 143 => 41 | 219 => 69 | 217 => 89 | 225 => 90 | 224 => 91 | 267 => 92 | 266 => 106 | 314 => 107 | n => n, fun | 9 => 9 | 3 => 3 | 4 => 4 | 5 => 5 | 46 => 155 | 146 => 173 | 51 => 172 | n => n, fun | 1 => 0 | n => n⟩
theorem lIndex : Go.Proofs.Lays.n143 Tryz.prog lIndex_ren := {
  mixed := by kernel_rfl
  f143 := Tryz.func41.trans (congrArg some (by kernel_rfl))
  f217 := Tryz.func89.trans (congrArg some (by kernel_rfl))
  f219 := Tryz.func69.trans (congrArg some (by kernel_rfl))
  f224 := Tryz.func91.trans (congrArg some (by kernel_rfl))
  f225 := Tryz.func90.trans (congrArg some (by kernel_rfl))
  f266 := Tryz.func106.trans (congrArg some (by kernel_rfl))
  f267 := Tryz.func92.trans (congrArg some (by kernel_rfl))
  f314 := Tryz.func107.trans (congrArg some (by kernel_rfl))
  t3 := Tryz.underlying3
  a3 := Tryz.isAgg3
  z3 := Tryz.sizeOf3
  v3 := Tryz.zeroValue3
  t4 := Tryz.underlying4
  a4 := Tryz.isAgg4
  z4 := Tryz.sizeOf4
  v4 := Tryz.zeroValue4
  t5 := Tryz.underlying5
  a5 := Tryz.isAgg5
  z5 := Tryz.sizeOf5
  v5 := Tryz.zeroValue5
  t9 := Tryz.underlying9
  a9 := Tryz.isAgg9
  z9 := Tryz.sizeOf9
  v9 := Tryz.zeroValue9
  t46 := Tryz.underlying155
  a46 := Tryz.isAgg155
  z46 := Tryz.sizeOf155
  v46 := Tryz.zeroValue155
  t51 := Tryz.underlying172
  a51 := Tryz.isAgg172
  z51 := Tryz.sizeOf172
  v51 := Tryz.zeroValue172
  t146 := Tryz.underlying173
  a146 := Tryz.isAgg173
  z146 := Tryz.sizeOf173
  v146 := Tryz.zeroValue173
  g1 := by kernel_rfl }
def lCount_ren : Go.Shelf.Ren := ⟨fun | 138 => 40 | 195 => 66 | 218 => 68 | 143 => 41 | 219 => 69 | 217 => 89 | 225 => 90 | 224 => 91 | 267 => 92 | 266 => 106 | 314 => 107 | n => n, fun | 9 => 9 | 3 => 3 | 4 => 4 | 5 => 5 | 0 => 0 | 46 => 155 | 146 => 173 | 51 => 172 | n => n, fun | 1 => 0 | n => n⟩
theorem lCount : Go.Proofs.Lays.n138 Tryz.prog lCount_ren := {
  mixed := by kernel_rfl
  f138 := Tryz.func40.trans (congrArg some (by kernel_rfl))
  f143 := Tryz.func41.trans (congrArg some (by kernel_rfl))
  f195 := Tryz.func66.trans (congrArg some (by kernel_rfl))
  f217 := Tryz.func89.trans (congrArg some (by kernel_rfl))
  f218 := Tryz.func68.trans (congrArg some (by kernel_rfl))
  f219 := Tryz.func69.trans (congrArg some (by kernel_rfl))
  f224 := Tryz.func91.trans (congrArg some (by kernel_rfl))
  f225 := Tryz.func90.trans (congrArg some (by kernel_rfl))
  f266 := Tryz.func106.trans (congrArg some (by kernel_rfl))
  f267 := Tryz.func92.trans (congrArg some (by kernel_rfl))
  f314 := Tryz.func107.trans (congrArg some (by kernel_rfl))
  t0 := Tryz.underlying0
  a0 := Tryz.isAgg0
  z0 := Tryz.sizeOf0
  v0 := Tryz.zeroValue0
  t3 := Tryz.underlying3
  a3 := Tryz.isAgg3
  z3 := Tryz.sizeOf3
  v3 := Tryz.zeroValue3
  t4 := Tryz.underlying4
  a4 := Tryz.isAgg4
  z4 := Tryz.sizeOf4
  v4 := Tryz.zeroValue4
  t5 := Tryz.underlying5
  a5 := Tryz.isAgg5
  z5 := Tryz.sizeOf5
  v5 := Tryz.zeroValue5
  t9 := Tryz.underlying9
  a9 := Tryz.isAgg9
  z9 := Tryz.sizeOf9
  v9 := Tryz.zeroValue9
  t46 := Tryz.underlying155
  a46 := Tryz.isAgg155
  z46 := Tryz.sizeOf155
  v46 := Tryz.zeroValue155
  t51 := Tryz.underlying172
  a51 := Tryz.isAgg172
  z51 := Tryz.sizeOf172
  v51 := Tryz.zeroValue172
  t146 := Tryz.underlying173
  a146 := Tryz.isAgg173
  z146 := Tryz.sizeOf173
  v146 := Tryz.zeroValue173
  g1 := by kernel_rfl }
end Go.Proofs.YtaklahcbeldbhaaGreatDoor
