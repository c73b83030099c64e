/-
  Parts of the proof, joined: LxE. Conditions: as each theorem says.
-/
import Derived.Test.YtblafdmmebiagaaQD15
import Derived.Test.YtblafdmmebiagaaQD08
namespace Go.Proofs.Ytblafdmmebiagaa
open Go.RowKit Go.Lib
theorem load_lit {P : Program} {T : TypeId} {d : TypeDesc} (w : World) (vs : List Value) (hi : (P.info? T).map (·.size) = some vs.length) (hu : P.underlying T = some d) (hd : d.isRow = true) :
    (loadVar T ⟨w.heap.size, 0, none⟩).run P (w.alloc (.cells vs.toArray T)) = .ok (.agg vs.toArray) (w.alloc (.cells vs.toArray T)) :=
  run_loadVar_mid (P := P) _ w.heap.size 0 T vs d (fun j v hv => by
    rw [World.cell?_alloc_at _ _ _ _ rfl, Nat.zero_add]
    simpa using hv) hu hd hi
theorem starts_fits2 (l : List Int) (k : Nat) (bs : List UInt8) (hk : k ≤ l.length) (h : startsF l k bs = true) : k + bs.length ≤ l.length := by
  by_cases hn : l.length < k + bs.length
  · rw [starts_short l k bs hn hk] at h; cases h
  · omega
set_option maxHeartbeats 4000000 in
set_option maxRecDepth 100000 in
theorem Markup_any (S : Nat → Prop) (A : Option Addr) (n c : Nat) (l : List Int) (k : Nat) (w : World) (hr : Rd w S 1 A n c (rc l)) (hk : k < l.length) (hl9 : l.length ≤ 1000000000) :
    Calls Try.prog 79 #[.slice A n c, .int .i64 k] w fun e w' => e = .returned (tokV (markupF l k) k) ∧ Below w.heap.size w w' := by
  obtain rfl := hr.rlen
  have hle := hr.le
  have hmx : c ≤ 9223372036854775807 := hr.max
  have HR := Lib.hid hr
  have HSa : ∀ W, Below w.heap.size w W → Hid (Calls Try.prog 88 #[.slice A l.length c, .int .i64 k, .string ⟨#[60, 33, 45, 45]⟩] W fun e w' => e = .returned (.bool (startsF l k [60, 33, 45, 45])) ∧ Below W.heap.size W w') :=
    fun W h => Starts_any S A l.length c l k ⟨#[60, 33, 45, 45]⟩ W (HR.out.below h) (by omega) hl9 (by decide)
  have HSb : ∀ W, Below w.heap.size w W → Hid (Calls Try.prog 88 #[.slice A l.length c, .int .i64 k, .string ⟨#[60, 33, 91, 67, 68, 65, 84, 65, 91]⟩] W fun e w' => e = .returned (.bool (startsF l k [60, 33, 91, 67, 68, 65, 84, 65, 91])) ∧ Below W.heap.size W w') :=
    fun W h => Starts_any S A l.length c l k ⟨#[60, 33, 91, 67, 68, 65, 84, 65, 91]⟩ W (HR.out.below h) (by omega) hl9 (by decide)
  have HSc : ∀ W, Below w.heap.size w W → Hid (Calls Try.prog 88 #[.slice A l.length c, .int .i64 k, .string ⟨#[60, 63]⟩] W fun e w' => e = .returned (.bool (startsF l k [60, 63])) ∧ Below W.heap.size W w') :=
    fun W h => Starts_any S A l.length c l k ⟨#[60, 63]⟩ W (HR.out.below h) (by omega) hl9 (by decide)
  have HSd : ∀ W, Below w.heap.size w W → Hid (Calls Try.prog 88 #[.slice A l.length c, .int .i64 k, .string ⟨#[60, 33, 68, 79, 67, 84, 89, 80, 69]⟩] W fun e w' => e = .returned (.bool (startsF l k [60, 33, 68, 79, 67, 84, 89, 80, 69])) ∧ Below W.heap.size W w') :=
    fun W h => Starts_any S A l.length c l k ⟨#[60, 33, 68, 79, 67, 84, 89, 80, 69]⟩ W (HR.out.below h) (by omega) hl9 (by decide)
  have HSe : ∀ W, Below w.heap.size w W → Hid (Calls Try.prog 88 #[.slice A l.length c, .int .i64 k, .string ⟨#[60, 47]⟩] W fun e w' => e = .returned (.bool (startsF l k [60, 47])) ∧ Below W.heap.size W w') :=
    fun W h => Starts_any S A l.length c l k ⟨#[60, 47]⟩ W (HR.out.below h) (by omega) hl9 (by decide)
  have HUa : ∀ W, Below w.heap.size w W → Hid (Calls Try.prog 92 #[.slice A l.length c, .int .i64 4, .int .i64 k, .int .i64 4, .string ⟨#[45, 45, 62]⟩] W fun e w' => e = .returned (.agg #[.int .i64 (upToF l 4 k 4 [45, 45, 62]).1, .int .i64 k, .int .i64 (upToF l 4 k 4 [45, 45, 62]).2.1, .bool (upToF l 4 k 4 [45, 45, 62]).2.2]) ∧ Below W.heap.size W w') :=
    fun W h => UpTo_any S A l.length c l 4 k 4 ⟨#[45, 45, 62]⟩ W (HR.out.below h) (by omega) (by decide) hl9 (by decide)
  have HUb : ∀ W, Below w.heap.size w W → Hid (Calls Try.prog 92 #[.slice A l.length c, .int .i64 6, .int .i64 k, .int .i64 9, .string ⟨#[93, 93, 62]⟩] W fun e w' => e = .returned (.agg #[.int .i64 (upToF l 6 k 9 [93, 93, 62]).1, .int .i64 k, .int .i64 (upToF l 6 k 9 [93, 93, 62]).2.1, .bool (upToF l 6 k 9 [93, 93, 62]).2.2]) ∧ Below W.heap.size W w') :=
    fun W h => UpTo_any S A l.length c l 6 k 9 ⟨#[93, 93, 62]⟩ W (HR.out.below h) (by omega) (by decide) hl9 (by decide)
  have HUc : ∀ W, Below w.heap.size w W → Hid (Calls Try.prog 92 #[.slice A l.length c, .int .i64 5, .int .i64 k, .int .i64 2, .string ⟨#[63, 62]⟩] W fun e w' => e = .returned (.agg #[.int .i64 (upToF l 5 k 2 [63, 62]).1, .int .i64 k, .int .i64 (upToF l 5 k 2 [63, 62]).2.1, .bool (upToF l 5 k 2 [63, 62]).2.2]) ∧ Below W.heap.size W w') :=
    fun W h => UpTo_any S A l.length c l 5 k 2 ⟨#[63, 62]⟩ W (HR.out.below h) (by omega) (by decide) hl9 (by decide)
  have HUd : startsF l k [60, 33, 68, 79, 67, 84, 89, 80, 69] = true → ∀ W, Below w.heap.size w W → Hid (Calls Try.prog 93 #[.slice A l.length c, .int .i64 k] W fun e w' => e = .returned (.agg #[.int .i64 (docTF l k).1, .int .i64 k, .int .i64 (docTF l k).2.1, .bool (docTF l k).2.2]) ∧ Below W.heap.size W w') :=
    fun hs W h => Doctypes_any S A l.length c l k W (HR.out.below h) (by have := starts_fits2 l k _ (by omega) hs; simpa using this) hl9
  have HUe : startsF l k [60, 47] = true → ∀ W, Below w.heap.size w W → Hid (Calls Try.prog 94 #[.slice A l.length c, .int .i64 k] W fun e w' => e = .returned (.agg #[.int .i64 (endTF l k).1, .int .i64 k, .int .i64 (endTF l k).2.1, .bool (endTF l k).2.2]) ∧ Below W.heap.size W w') :=
    fun hs W h => EndT_any S A l.length c l k W (HR.out.below h) (by have := starts_fits2 l k _ (by omega) hs; simpa using this) hl9
  have HUf : ∀ W, Below w.heap.size w W → Hid (Calls Try.prog 95 #[.slice A l.length c, .int .i64 k] W fun e w' => e = .returned (.agg #[.int .i64 (startTF l k).1, .int .i64 k, .int .i64 (startTF l k).2.1, .bool (startTF l k).2.2]) ∧ Below W.heap.size W w') :=
    fun W h => StartT_any S A l.length c l k W (HR.out.below h) hk hl9
  have HLD : ∀ W, Below w.heap.size w W → Hid (Calls Try.prog 86 #[.slice A l.length c, .int .i64 ((k : Int) + 1)] W fun e w' => e = .returned (.int .i64 (leadF l (k + 1))) ∧ Below W.heap.size W w') := fun W h => by
    rw [show ((k : Int) + 1) = ((k + 1 : Nat) : Int) by omega]
    exact NLead_any S A l.length c l (k + 1) W (HR.out.below h) (by omega)
  have HT : Hid (markupF l k = if startsF l k [60, 33, 45, 45] = true then upToF l 4 k 4 [45, 45, 62]
    else if startsF l k [60, 33, 91, 67, 68, 65, 84, 65, 91] = true then upToF l 6 k 9 [93, 93, 62]
    else if startsF l k [60, 63] = true then upToF l 5 k 2 [63, 62]
    else if startsF l k [60, 33, 68, 79, 67, 84, 89, 80, 69] = true then docTF l k
    else if startsF l k [60, 47] = true then endTF l k
    else if 0 < leadF l (k + 1) then startTF l k
    else (11, k + 1, false)) := rfl
  clear hr
  generalize markupF l k = t at HT ⊢
  generalize startsF l k [60, 33, 45, 45] = sa at HSa HT
  generalize startsF l k [60, 33, 91, 67, 68, 65, 84, 65, 91] = sb at HSb HT
  generalize startsF l k [60, 63] = sc at HSc HT
  generalize startsF l k [60, 33, 68, 79, 67, 84, 89, 80, 69] = sd at HSd HT HUd
  generalize startsF l k [60, 47] = se at HSe HT HUe
  generalize upToF l 4 k 4 [45, 45, 62] = ua at HUa HT
  generalize upToF l 6 k 9 [93, 93, 62] = ub at HUb HT
  generalize upToF l 5 k 2 [63, 62] = uc at HUc HT
  generalize docTF l k = ud at HUd HT
  generalize endTF l k = ue at HUe HT
  generalize startTF l k = uf at HUf HT
  generalize leadF l (k + 1) = ld at HLD HT
  obtain ⟨kka, tta, wwa⟩ := ua
  obtain ⟨kkb, ttb, wwb⟩ := ub
  obtain ⟨kkc, ttc, wwc⟩ := uc
  obtain ⟨kkd, ttd, wwd⟩ := ud
  obtain ⟨kke, tte, wwe⟩ := ue
  obtain ⟨kkf, ttf, wwf⟩ := uf
  go_enter Try.func79, Try.ntmps79
  go_wp2_with fail
  have HTH0 := Lib.hid (there_lit w #[.int .i64 0, .int .i64 0, .int .i64 0, .bool false] 109)
  have HB0 := Lib.hid (ba w (.cells #[.int .i64 0, .int .i64 0, .int .i64 0, .bool false] 109))
  have HSZ : Hid (w.heap.size < (w.alloc (.cells #[.int .i64 0, .int .i64 0, .int .i64 0, .bool false] 109)).heap.size) := by simp [Hid]
  generalize w.alloc (.cells #[.int .i64 0, .int .i64 0, .int .i64 0, .bool false] 109) = W0 at HTH0 HB0 HSZ
  have HTH0 : Hid (W0.there w.heap.size 0 4) := HTH0.out
  refine (HSa _ HB0.out).out.mono ?_
  rintro e va ⟨rfl, hb⟩
  have HBa := Lib.hid (HB0.out.trans (hb.mono HB0.out.size))
  have HTHa : Hid (va.there w.heap.size 0 4) := there_below HTH0.out hb HSZ.out
  have HLTa : Hid (w.heap.size < va.heap.size) := Nat.lt_of_lt_of_le HSZ.out hb.size
  clear hb HSa
  cases sa with
  | true =>
    have HE : Hid (t = (kka, tta, wwa)) := HT.out
    clear HT
    go_wp2_with fail
    refine (HUa _ HBa.out).out.mono ?_
    rintro e xa ⟨rfl, hb⟩
    have HBx := Lib.hid (HBa.out.trans (hb.mono HBa.out.size))
    have HTHx : Hid (xa.there w.heap.size 0 4) := there_below HTHa.out hb HLTa.out
    clear hb
    have HL9 := Lib.hid (load_struct (P := Try.prog) (T := 109) xa w.heap.size [.int .i64 kka, .int .i64 k, .int .i64 (tta), .bool wwa] HTHx.out (by kernel_rfl) Try.underlying109 rfl)
    have HB9 := Lib.hid (below_setCells2 HBx.out w.heap.size (Nat.le_refl _) [.int .i64 kka, .int .i64 k, .int .i64 (tta), .bool wwa] 0)
    obtain ⟨⟨z0, hz0⟩, hf0⟩ := there_cell HTHx.out 0 (by decide)
    obtain ⟨⟨z1, hz1⟩, hf1⟩ := there_cell HTHx.out 1 (by decide)
    obtain ⟨⟨z2, hz2⟩, hf2⟩ := there_cell HTHx.out 2 (by decide)
    obtain ⟨⟨z3, hz3⟩, hf3⟩ := there_cell HTHx.out 3 (by decide)
    go_wp2
    refine bodyPost_ret (results_cell1 rfl _ rfl HL9.out) rfl ?_
    rw [HE.out]
    exact ⟨rfl, HB9.out⟩
  | false =>
    go_wp2_with fail
    refine (HSb _ HBa.out).out.mono ?_
    rintro e vb ⟨rfl, hb⟩
    have HBb := Lib.hid (HBa.out.trans (hb.mono HBa.out.size))
    have HTHb : Hid (vb.there w.heap.size 0 4) := there_below HTHa.out hb HLTa.out
    have HLTb : Hid (w.heap.size < vb.heap.size) := Nat.lt_of_lt_of_le HLTa.out hb.size
    clear hb HSb
    cases sb with
    | true =>
      have HE : Hid (t = (kkb, ttb, wwb)) := HT.out
      clear HT
      go_wp2_with fail
      refine (HUb _ HBb.out).out.mono ?_
      rintro e xb ⟨rfl, hb⟩
      have HBx := Lib.hid (HBb.out.trans (hb.mono HBb.out.size))
      have HTHx : Hid (xb.there w.heap.size 0 4) := there_below HTHb.out hb HLTb.out
      clear hb
      have HL9 := Lib.hid (load_struct (P := Try.prog) (T := 109) xb w.heap.size [.int .i64 kkb, .int .i64 k, .int .i64 (ttb), .bool wwb] HTHx.out (by kernel_rfl) Try.underlying109 rfl)
      have HB9 := Lib.hid (below_setCells2 HBx.out w.heap.size (Nat.le_refl _) [.int .i64 kkb, .int .i64 k, .int .i64 (ttb), .bool wwb] 0)
      obtain ⟨⟨z0, hz0⟩, hf0⟩ := there_cell HTHx.out 0 (by decide)
      obtain ⟨⟨z1, hz1⟩, hf1⟩ := there_cell HTHx.out 1 (by decide)
      obtain ⟨⟨z2, hz2⟩, hf2⟩ := there_cell HTHx.out 2 (by decide)
      obtain ⟨⟨z3, hz3⟩, hf3⟩ := there_cell HTHx.out 3 (by decide)
      go_wp2
      refine bodyPost_ret (results_cell1 rfl _ rfl HL9.out) rfl ?_
      rw [HE.out]
      exact ⟨rfl, HB9.out⟩
    | false =>
      go_wp2_with fail
      refine (HSc _ HBb.out).out.mono ?_
      rintro e vc ⟨rfl, hb⟩
      have HBc := Lib.hid (HBb.out.trans (hb.mono HBb.out.size))
      have HTHc : Hid (vc.there w.heap.size 0 4) := there_below HTHb.out hb HLTb.out
      have HLTc : Hid (w.heap.size < vc.heap.size) := Nat.lt_of_lt_of_le HLTb.out hb.size
      clear hb HSc
      cases sc with
      | true =>
        have HE : Hid (t = (kkc, ttc, wwc)) := HT.out
        clear HT
        go_wp2_with fail
        refine (HUc _ HBc.out).out.mono ?_
        rintro e xc ⟨rfl, hb⟩
        have HBx := Lib.hid (HBc.out.trans (hb.mono HBc.out.size))
        have HTHx : Hid (xc.there w.heap.size 0 4) := there_below HTHc.out hb HLTc.out
        clear hb
        have HL9 := Lib.hid (load_struct (P := Try.prog) (T := 109) xc w.heap.size [.int .i64 kkc, .int .i64 k, .int .i64 (ttc), .bool wwc] HTHx.out (by kernel_rfl) Try.underlying109 rfl)
        have HB9 := Lib.hid (below_setCells2 HBx.out w.heap.size (Nat.le_refl _) [.int .i64 kkc, .int .i64 k, .int .i64 (ttc), .bool wwc] 0)
        obtain ⟨⟨z0, hz0⟩, hf0⟩ := there_cell HTHx.out 0 (by decide)
        obtain ⟨⟨z1, hz1⟩, hf1⟩ := there_cell HTHx.out 1 (by decide)
        obtain ⟨⟨z2, hz2⟩, hf2⟩ := there_cell HTHx.out 2 (by decide)
        obtain ⟨⟨z3, hz3⟩, hf3⟩ := there_cell HTHx.out 3 (by decide)
        go_wp2
        refine bodyPost_ret (results_cell1 rfl _ rfl HL9.out) rfl ?_
        rw [HE.out]
        exact ⟨rfl, HB9.out⟩
      | false =>
        go_wp2_with fail
        refine (HSd _ HBc.out).out.mono ?_
        rintro e vd ⟨rfl, hb⟩
        have HBd := Lib.hid (HBc.out.trans (hb.mono HBc.out.size))
        have HTHd : Hid (vd.there w.heap.size 0 4) := there_below HTHc.out hb HLTc.out
        have HLTd : Hid (w.heap.size < vd.heap.size) := Nat.lt_of_lt_of_le HLTc.out hb.size
        clear hb HSd
        cases sd with
        | true =>
          have HE : Hid (t = (kkd, ttd, wwd)) := HT.out
          clear HT
          go_wp2_with fail
          refine (HUd (by first | trivial | rfl) _ HBd.out).out.mono ?_
          rintro e xd ⟨rfl, hb⟩
          have HBx := Lib.hid (HBd.out.trans (hb.mono HBd.out.size))
          have HTHx : Hid (xd.there w.heap.size 0 4) := there_below HTHd.out hb HLTd.out
          clear hb
          have HL9 := Lib.hid (load_struct (P := Try.prog) (T := 109) xd w.heap.size [.int .i64 kkd, .int .i64 k, .int .i64 (ttd), .bool wwd] HTHx.out (by kernel_rfl) Try.underlying109 rfl)
          have HB9 := Lib.hid (below_setCells2 HBx.out w.heap.size (Nat.le_refl _) [.int .i64 kkd, .int .i64 k, .int .i64 (ttd), .bool wwd] 0)
          obtain ⟨⟨z0, hz0⟩, hf0⟩ := there_cell HTHx.out 0 (by decide)
          obtain ⟨⟨z1, hz1⟩, hf1⟩ := there_cell HTHx.out 1 (by decide)
          obtain ⟨⟨z2, hz2⟩, hf2⟩ := there_cell HTHx.out 2 (by decide)
          obtain ⟨⟨z3, hz3⟩, hf3⟩ := there_cell HTHx.out 3 (by decide)
          go_wp2
          refine bodyPost_ret (results_cell1 rfl _ rfl HL9.out) rfl ?_
          rw [HE.out]
          exact ⟨rfl, HB9.out⟩
        | false =>
          go_wp2_with fail
          refine (HSe _ HBd.out).out.mono ?_
          rintro e ve ⟨rfl, hb⟩
          have HBe := Lib.hid (HBd.out.trans (hb.mono HBd.out.size))
          have HTHe : Hid (ve.there w.heap.size 0 4) := there_below HTHd.out hb HLTd.out
          have HLTe : Hid (w.heap.size < ve.heap.size) := Nat.lt_of_lt_of_le HLTd.out hb.size
          clear hb HSe
          cases se with
          | true =>
            have HE : Hid (t = (kke, tte, wwe)) := HT.out
            clear HT
            go_wp2_with fail
            refine (HUe (by first | trivial | rfl) _ HBe.out).out.mono ?_
            rintro e xe ⟨rfl, hb⟩
            have HBx := Lib.hid (HBe.out.trans (hb.mono HBe.out.size))
            have HTHx : Hid (xe.there w.heap.size 0 4) := there_below HTHe.out hb HLTe.out
            clear hb
            have HL9 := Lib.hid (load_struct (P := Try.prog) (T := 109) xe w.heap.size [.int .i64 kke, .int .i64 k, .int .i64 (tte), .bool wwe] HTHx.out (by kernel_rfl) Try.underlying109 rfl)
            have HB9 := Lib.hid (below_setCells2 HBx.out w.heap.size (Nat.le_refl _) [.int .i64 kke, .int .i64 k, .int .i64 (tte), .bool wwe] 0)
            obtain ⟨⟨z0, hz0⟩, hf0⟩ := there_cell HTHx.out 0 (by decide)
            obtain ⟨⟨z1, hz1⟩, hf1⟩ := there_cell HTHx.out 1 (by decide)
            obtain ⟨⟨z2, hz2⟩, hf2⟩ := there_cell HTHx.out 2 (by decide)
            obtain ⟨⟨z3, hz3⟩, hf3⟩ := there_cell HTHx.out 3 (by decide)
            go_wp2
            refine bodyPost_ret (results_cell1 rfl _ rfl HL9.out) rfl ?_
            rw [HE.out]
            exact ⟨rfl, HB9.out⟩
          | false =>
            go_wp2_with fail
            refine (HLD _ HBe.out).out.mono ?_
            rintro e vf ⟨rfl, hb⟩
            have HBf := Lib.hid (HBe.out.trans (hb.mono HBe.out.size))
            have HTHf : Hid (vf.there w.heap.size 0 4) := there_below HTHe.out hb HLTe.out
            have HLTf : Hid (w.heap.size < vf.heap.size) := Nat.lt_of_lt_of_le HLTe.out hb.size
            clear hb HLD
            by_cases hl0 : 0 < ld
            · have hl0i : (ld : Int) > 0 := by omega
              have HE : Hid (t = (kkf, ttf, wwf)) := by rw [Hid, HT.out]; simp [hl0]
              clear HT
              go_wp2_with fail
              refine (HUf _ HBf.out).out.mono ?_
              rintro e xf ⟨rfl, hb⟩
              have HBx := Lib.hid (HBf.out.trans (hb.mono HBf.out.size))
              have HTHx : Hid (xf.there w.heap.size 0 4) := there_below HTHf.out hb HLTf.out
              clear hb
              have HL9 := Lib.hid (load_struct (P := Try.prog) (T := 109) xf w.heap.size [.int .i64 kkf, .int .i64 k, .int .i64 (ttf), .bool wwf] HTHx.out (by kernel_rfl) Try.underlying109 rfl)
              have HB9 := Lib.hid (below_setCells2 HBx.out w.heap.size (Nat.le_refl _) [.int .i64 kkf, .int .i64 k, .int .i64 (ttf), .bool wwf] 0)
              obtain ⟨⟨z0, hz0⟩, hf0⟩ := there_cell HTHx.out 0 (by decide)
              obtain ⟨⟨z1, hz1⟩, hf1⟩ := there_cell HTHx.out 1 (by decide)
              obtain ⟨⟨z2, hz2⟩, hf2⟩ := there_cell HTHx.out 2 (by decide)
              obtain ⟨⟨z3, hz3⟩, hf3⟩ := there_cell HTHx.out 3 (by decide)
              go_wp2
              refine bodyPost_ret (results_cell1 rfl _ rfl HL9.out) rfl ?_
              rw [HE.out]
              exact ⟨rfl, HB9.out⟩
            · have hl0i : ¬ (ld : Int) > 0 := by omega
              have HE : Hid (t = (11, k + 1, false)) := by rw [Hid, HT.out]; simp [hl0]
              clear HT
              have HL9 := Lib.hid (load_struct (P := Try.prog) (T := 109) vf w.heap.size [.int .i64 11, .int .i64 k, .int .i64 ((k : Int) + 1), .bool false] HTHf.out (by kernel_rfl) Try.underlying109 rfl)
              have HB9 := Lib.hid (below_setCells2 HBf.out w.heap.size (Nat.le_refl _) [.int .i64 11, .int .i64 k, .int .i64 ((k : Int) + 1), .bool false] 0)
              obtain ⟨⟨z0, hz0⟩, hf0⟩ := there_cell HTHf.out 0 (by decide)
              obtain ⟨⟨z1, hz1⟩, hf1⟩ := there_cell HTHf.out 1 (by decide)
              obtain ⟨⟨z2, hz2⟩, hf2⟩ := there_cell HTHf.out 2 (by decide)
              obtain ⟨⟨z3, hz3⟩, hf3⟩ := there_cell HTHf.out 3 (by decide)
              go_wp2
              refine bodyPost_ret (results_cell1 rfl _ rfl HL9.out) rfl ?_
              rw [HE.out]
              exact ⟨by simp [tokV], HB9.out⟩
set_option maxHeartbeats 400000 in
set_option maxRecDepth 100000 in
theorem LPlain_any (r : Int) (w : World) : Calls Try.prog 82 #[.int .i32 r] w fun e w' => e = .returned (.bool (isPlain r)) ∧ w = w' := by
  by_cases h1 : r = 60
  · subst h1
    go_enter Try.func82, Try.ntmps82
    go_wp2
    go_ret
    exact ⟨rfl, rfl⟩
  · have h1b : (r != 60) = true := by simpa using h1
    by_cases h2 : r = 38
    · subst h2
      clear h1
      go_enter Try.func82, Try.ntmps82
      go_wp2
      go_ret
      exact ⟨rfl, rfl⟩
    · have h2b : (r != 38) = true := by simpa using h2
      have HE : Hid (isPlain r = (r != -1)) := by rw [Hid, isPlain, h1b, h2b, Bool.true_and, Bool.true_and]
      clear h1 h2
      go_enter Try.func82, Try.ntmps82
      go_wp2
      go_ret
      exact ⟨ret_bool HE.out.symm, rfl⟩
theorem LPlain_ok (w : World) : PredOk Try.prog 82 #[] isPlain w := fun W r _ => (LPlain_any r W).mono fun _ _ ⟨h1, h2⟩ => ⟨h1, h2 ▸ Below.refl _ _⟩
theorem eg_LPlain : ∀ args w, (callFunc 82 args).run Try.prog w = .ok (.enter 82 args) w := enters_of Try.func82 (by kernel_rfl) rfl
set_option maxHeartbeats 4000000 in
set_option maxRecDepth 100000 in
theorem NextT_any (S : Nat → Prop) (A : Option Addr) (n c : Nat) (l : List Int) (k : Nat) (w : World) (hr : Rd w S 1 A n c (rc l)) (hk : k < l.length) (hl9 : l.length ≤ 1000000000) :
    Calls Try.prog 67 #[.slice A n c, .int .i64 k] w fun e w' => e = .returned (.tuple #[tokV (nextTF l k) k, .bool true]) ∧ Below w.heap.size w w' := by
  obtain rfl := hr.rlen
  have hle := hr.le
  have hmx : c ≤ 9223372036854775807 := hr.max
  by_cases h38 : l[k] = 38
  · have HE : nextTF l k = refF l k := by rw [nextTF, getD_at hk, h38]; rfl
    rw [HE]
    exact NextAmp_any S A _ c l k w hr (by rw [List.getElem?_eq_getElem hk, h38]) hl9
  · obtain ⟨b, o, rfl, hc0⟩ := hr.rune hk
    have hca := fun ob => cell_keep (ba w ob) hc0
    have hki : ¬ (k : Int) ≥ (l.length : Int) := by omega
    have hkj : (k : Int) < (l.length : Int) := by omega
    have HMK := fun W (h : Below w.heap.size w W) => Lib.hid (Markup_any S _ _ c l k W (hr.below h) hk hl9)
    have HMK : ∀ W, Below w.heap.size w W → Hid (Calls Try.prog 79 #[.slice (some ⟨b, o, none⟩) l.length c, .int .i64 k] W fun e w' => e = .returned (.agg #[.int .i64 (markupF l k).1, .int .i64 k, .int .i64 (markupF l k).2.1, .bool (markupF l k).2.2]) ∧ Below W.heap.size W w') := HMK
    have HRN := fun W (h : Below w.heap.size w W) => (Run_any S _ l.length c l k _ #[] isPlain W eg_LPlain (hr.below h) (LPlain_ok W))
    have hrn : runF isPlain l k = ((l.drop k).takeWhile isPlain).length := by rw [runF, if_neg (by omega), Int.toNat_natCast]
    rw [hrn] at HRN
    have HRN := fun W h => Lib.hid (HRN W h)
    have hrl := (List.takeWhile_sublist isPlain (l := l.drop k)).length_le
    rw [List.length_drop] at hrl
    have HT : Hid (nextTF l k = if l[k] = 60 then markupF l k else if l[k] = 38 then refF l k else if l[k] = -1 then (11, k + 1, false) else (1, k + ((l.drop k).takeWhile isPlain).length, true)) := by rw [Hid, nextTF, getD_at hk]
    clear hr hrn
    generalize nextTF l k = t at HT ⊢
    generalize markupF l k = mk at HMK HT
    generalize ((l.drop k).takeWhile isPlain).length = rn at HRN HT hrl
    obtain ⟨mka, mkb, mkc⟩ := mk
    generalize l[k] = r at hc0 hca HT h38
    have h38b : (r == 38) = false := by simpa using h38
    by_cases h60 : r = 60
    · have HE : Hid (t = (mka, mkb, mkc)) := by rw [Hid, HT.out, if_pos h60]
      subst h60
      clear HT h38 hc0 HRN
      go_enter Try.func67, Try.ntmps67
      go_wp2_with fail
      have HTH0 := Lib.hid (there_lit w #[.int .i64 0, .int .i64 0, .int .i64 0, .bool false] 109)
      have HB0 := Lib.hid (ba w (.cells #[.int .i64 0, .int .i64 0, .int .i64 0, .bool false] 109))
      have HSZ : Hid (w.heap.size < (w.alloc (.cells #[.int .i64 0, .int .i64 0, .int .i64 0, .bool false] 109)).heap.size) := by simp [Hid]
      generalize w.alloc (.cells #[.int .i64 0, .int .i64 0, .int .i64 0, .bool false] 109) = W0 at HTH0 HB0 HSZ
      refine (HMK _ HB0.out).out.mono ?_
      rintro e w1 ⟨rfl, hb1⟩
      have HB1 := Lib.hid (HB0.out.trans (hb1.mono HB0.out.size))
      have HTH1 : Hid (w1.there w.heap.size 0 4) := there_below HTH0.out hb1 HSZ.out
      clear hb1 HTH0 HSZ
      have HL9 := Lib.hid (load_struct (P := Try.prog) (T := 109) w1 w.heap.size [.int .i64 mka, .int .i64 k, .int .i64 (mkb), .bool mkc] HTH1.out (by kernel_rfl) Try.underlying109 rfl)
      have HB9 := Lib.hid (below_setCells2 HB1.out w.heap.size (Nat.le_refl _) [.int .i64 mka, .int .i64 k, .int .i64 (mkb), .bool mkc] 0)
      obtain ⟨⟨z0, hz0⟩, hf0⟩ := there_cell HTH1.out 0 (by decide)
      obtain ⟨⟨z1, hz1⟩, hf1⟩ := there_cell HTH1.out 1 (by decide)
      obtain ⟨⟨z2, hz2⟩, hf2⟩ := there_cell HTH1.out 2 (by decide)
      obtain ⟨⟨z3, hz3⟩, hf3⟩ := there_cell HTH1.out 3 (by decide)
      go_wp2
      refine bodyPost_ret (results_cell2 rfl _ rfl HL9.out) rfl ?_
      rw [HE.out]
      exact ⟨rfl, HB9.out⟩
    · have h60b : (r == 60) = false := by simpa using h60
      by_cases h1 : r = -1
      · have HE : Hid (t = (11, k + 1, false)) := by rw [Hid, HT.out, if_neg h60, if_neg h38, if_pos h1]
        subst h1
        clear HT h38 h60 hc0 HRN HMK
        have HL9 := Lib.hid (load_lit (P := Try.prog) (T := 109) w [.int .i64 11, .int .i64 k, .int .i64 ((k : Int) + 1), .bool false] (by kernel_rfl) Try.underlying109 rfl)
        have HB9 := Lib.hid (ba w (.cells #[.int .i64 11, .int .i64 k, .int .i64 ((k : Int) + 1), .bool false] 109))
        go_enter Try.func67, Try.ntmps67
        go_wp2
        refine bodyPost_ret (results_cell2 rfl _ rfl HL9.out) rfl ?_
        rw [HE.out]
        exact ⟨by simp [tokV], HB9.out⟩
      · have h1b : (r == -1) = false := by simpa using h1
        have HE : Hid (t = (1, k + rn, true)) := by rw [Hid, HT.out, if_neg h60, if_neg h38, if_neg h1]
        clear HT h38 h60 h1 hc0 HMK
        go_enter Try.func67, Try.ntmps67
        go_wp2_with fail
        have HTH0 := Lib.hid (there_lit w #[.int .i64 0, .int .i64 0, .int .i64 0, .bool false] 109)
        have HB0 := Lib.hid (ba w (.cells #[.int .i64 0, .int .i64 0, .int .i64 0, .bool false] 109))
        have HSZ : Hid (w.heap.size < (w.alloc (.cells #[.int .i64 0, .int .i64 0, .int .i64 0, .bool false] 109)).heap.size) := by simp [Hid]
        generalize w.alloc (.cells #[.int .i64 0, .int .i64 0, .int .i64 0, .bool false] 109) = W0 at HTH0 HB0 HSZ
        refine (HRN _ HB0.out).out.mono ?_
        rintro e w1 ⟨rfl, hb1⟩
        have HB1 := Lib.hid (HB0.out.trans (hb1.mono HB0.out.size))
        have HTH1 : Hid (w1.there w.heap.size 0 4) := there_below HTH0.out hb1 HSZ.out
        clear hb1 HTH0 HSZ
        have HL9 := Lib.hid (load_struct (P := Try.prog) (T := 109) w1 w.heap.size [.int .i64 1, .int .i64 k, .int .i64 ((k : Int) + (rn : Int)), .bool true] HTH1.out (by kernel_rfl) Try.underlying109 rfl)
        have HB9 := Lib.hid (below_setCells2 HB1.out w.heap.size (Nat.le_refl _) [.int .i64 1, .int .i64 k, .int .i64 ((k : Int) + (rn : Int)), .bool true] 0)
        obtain ⟨⟨z0, hz0⟩, hf0⟩ := there_cell HTH1.out 0 (by decide)
        obtain ⟨⟨z1, hz1⟩, hf1⟩ := there_cell HTH1.out 1 (by decide)
        obtain ⟨⟨z2, hz2⟩, hf2⟩ := there_cell HTH1.out 2 (by decide)
        obtain ⟨⟨z3, hz3⟩, hf3⟩ := there_cell HTH1.out 3 (by decide)
        go_wp2
        refine bodyPost_ret (results_cell2 rfl _ rfl HL9.out) rfl ?_
        rw [HE.out]
        exact ⟨by simp [tokV], HB9.out⟩
end Go.Proofs.Ytblafdmmebiagaa
