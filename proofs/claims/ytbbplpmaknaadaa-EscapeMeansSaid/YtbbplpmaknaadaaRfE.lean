/-
  Layer 14 (refs): piece. Rows of at most 100000000.
-/
import Derived.Test.YtbbplpmaknaadaaRfD
import Derived.Test.YtbbplpmaknaadaaMixG
namespace Go.Proofs.Ytbbplpmaknaadaa
open Go.RowKit Go.Lib

def pcCells (p : Pc) : List Value := [.int .i64 p.kind, .int .i64 p.frm, .int .i64 p.to, .int .i32 p.r, .string ⟨p.name.toArray⟩]
def pcV (p : Pc) : Value := .agg #[.int .i64 p.kind, .int .i64 p.frm, .int .i64 p.to, .int .i32 p.r, .string ⟨p.name.toArray⟩]

theorem leG_setCells (w : World) (b : Nat) (vs : List Value) (o : Nat) : LeG (some b) w (w.setCells b o vs) := by
  induction vs generalizing o w with
  | nil => exact LeG.refl _ _
  | cons v r ih =>
    refine LeG.trans _ _ _ _ ?_ (ih _ (o + 1))
    refine ⟨rfl, rfl, rfl, by simp [World.setCell], fun i hi hne => ?_⟩
    have hne : i ≠ b := fun e => hne (by rw [e])
    exact Below.heap_setCell _ _ _ _ hne

theorem ref_two (l : List Int) (k : Nat) (h : (refF l k).1 = 2) : k + 2 ≤ (refF l k).2.1 := by
  unfold refF at h ⊢
  split
  · simp only; omega
  · rename_i h1
    rw [if_neg h1] at h
    split
    · simp only; omega
    · rename_i h2
      rw [if_neg h2] at h
      split
      · simp only; omega
      · rename_i h3
        rw [if_neg h3] at h
        simp at h

set_option maxHeartbeats 4000000 in
set_option maxRecDepth 100000 in
theorem Piece_any (S : Nat → Prop) (A : Option Addr) (n c : Nat) (l : List Int) (k : Nat) (w : World) (hr : Rd w S 1 A n c (rc l)) (h38 : l[k]? = some 38) (hl9 : l.length ≤ 100000000) :
    Calls Try.prog 99 #[.slice A n c, .int .i64 k] w fun e w' => e = .returned (pcV (pieceF l k)) ∧ Below w.heap.size w w' := by
  obtain rfl := hr.rlen
  have hle := hr.le
  have hmx : c ≤ 9223372036854775807 := hr.max
  have hk := (List.getElem?_eq_some_iff.1 h38).1
  have HR := Lib.hid hr
  have HNX := fun W (h : Below w.heap.size w W) => Lib.hid (NextAmp_any S _ _ c l k W (hr.below h) h38 (by omega))
  have hkt := refF_pos l k
  have htl := refF_le l k hk
  have HK2 := ref_two l k
  have HD0 := Lib.hid (show ∀ m, 0 < m → ((l.drop k).take m)[0]? = some 38 from fun m hm => by rw [List.getElem?_take, if_pos hm, List.getElem?_drop, Nat.add_zero, h38])
  have HP : Hid (pieceF l k = if (refF l k).1 = 3 then
    (match numF ((l.drop k).take ((refF l k).2.1 - k)) with
     | some r => ⟨2, k, (refF l k).2.1, r, []⟩
     | none => ⟨4, k, (refF l k).2.1, 0, []⟩)
    else if (refF l k).1 = 2 then ⟨3, k, (refF l k).2.1, 0, bytesF ((l.drop (k + 1)).take ((refF l k).2.1 - 1 - (k + 1)))⟩
    else ⟨4, k, k + 1, 0, []⟩) := rfl
  have HB0 := Lib.hid (ba w (.cells #[.int .i64 0, .int .i64 0, .int .i64 0, .int .i32 0, .string ⟨#[]⟩] 76))
  have HTH0 := Lib.hid (there_lit w #[.int .i64 0, .int .i64 0, .int .i64 0, .int .i32 0, .string ⟨#[]⟩] 76)
  have HSZ : Hid (w.heap.size < (w.alloc (.cells #[.int .i64 0, .int .i64 0, .int .i64 0, .int .i32 0, .string ⟨#[]⟩] 76)).heap.size) := by simp [Hid]
  clear hr
  generalize pieceF l k = pc at HP ⊢
  generalize refF l k = t at HNX HP hkt htl HK2
  obtain ⟨kd, to, wh⟩ := t
  have HNX : ∀ W, Below w.heap.size w W → Hid (Calls Try.prog 112 #[.slice A l.length c, .int .i64 k] W fun e w' => e = .returned (.tuple #[.agg #[.int .i64 kd, .int .i64 k, .int .i64 to, .bool wh], .bool true]) ∧ Below W.heap.size W w') := HNX
  have hkt : k < to := hkt
  have htl : to ≤ l.length := htl
  have HPP : Hid (pc = if kd = 3 then (match numF ((l.drop k).take (to - k)) with
     | some r => ⟨2, k, to, r, []⟩
     | none => ⟨4, k, to, 0, []⟩) else if kd = 2 then ⟨3, k, to, 0, bytesF ((l.drop (k + 1)).take (to - 1 - (k + 1)))⟩ else ⟨4, k, k + 1, 0, []⟩) := HP
  clear HP
  have HP := HPP.out
  clear HPP
  have hk2 : kd = 2 → k + 2 ≤ to := HK2
  by_cases h3 : kd = 3
  · subst h3
    rw [if_pos rfl] at HP
    have HP := Lib.hid HP
    obtain ⟨A3, hr3, hsl⟩ := HR.out.runesLH (j := k) (k := to) (by omega) (by omega)
    have HNU := fun W (h : Below w.heap.size w W) => Lib.hid (Number_any S A3 _ _ _ W (hr3.below h) (HD0.out _ (by omega)) (by simp; omega))
    generalize numF ((l.drop k).take (to - k)) = q at HNU HP
    generalize to - k = nn at hsl HNU
    generalize c - k = cc at hsl HNU
    clear hr3 h38
    go_enter Try.func99, Try.ntmps99
    go_wp2_with fail
    generalize w.alloc (.cells #[.int .i64 0, .int .i64 0, .int .i64 0, .int .i32 0, .string ⟨#[]⟩] 76) = W0 at HTH0 HB0 HSZ
    refine (HNX _ HB0.out).out.mono ?_
    rintro e w1 ⟨rfl, hb1⟩
    have hT2 := box_cell w1 #[.int .i64 (3 : Nat), .int .i64 k, .int .i64 to, .bool wh] 112 2 (u := .int .i64 to) rfl
    have HBA := Lib.hid (bt hb1 (ba w1 (.cells #[.int .i64 (3 : Nat), .int .i64 k, .int .i64 to, .bool wh] 112)))
    have HB2 := Lib.hid (HB0.out.trans (HBA.out.mono HB0.out.size))
    have HTH2 := Lib.hid (there_below HTH0.out HBA.out HSZ.out)
    have HLT := Lib.hid (Nat.lt_of_lt_of_le HSZ.out HBA.out.size)
    clear hb1 HBA HNX HTH0
    go_wp2_with fail
    generalize w1.alloc (.cells #[.int .i64 (3 : Nat), .int .i64 k, .int .i64 to, .bool wh] 112) = W2 at hT2 HB2 HTH2 HLT
    refine (HNU _ HB2.out).out.mono ?_
    rintro e w3 ⟨rfl, hb3⟩
    have hT3 := cell_keep hb3 hT2
    have HB3 := Lib.hid (HB2.out.trans (hb3.mono HB2.out.size))
    have HTH3 := Lib.hid (there_below HTH2.out hb3 HLT.out)
    clear hT2 hb3 HB2 HTH2 HLT
    cases q with
    | some r =>
      have HL9 := Lib.hid (load_struct (P := Try.prog) (T := 76) w3 w.heap.size [.int .i64 2, .int .i64 k, .int .i64 (to), .int .i32 r, .string ⟨#[]⟩] HTH3.out (by kernel_rfl) Try.underlying76 rfl)
      have HB9 := Lib.hid (below_setCells2 HB3.out w.heap.size (Nat.le_refl _) [.int .i64 2, .int .i64 k, .int .i64 (to), .int .i32 r, .string ⟨#[]⟩] 0)
      obtain ⟨⟨z0, hz0⟩, hf0⟩ := there_cell HTH3.out 0 (by decide)
      obtain ⟨⟨z1, hz1⟩, hf1⟩ := there_cell HTH3.out 1 (by decide)
      obtain ⟨⟨z2, hz2⟩, hf2⟩ := there_cell HTH3.out 2 (by decide)
      obtain ⟨⟨z3, hz3⟩, hf3⟩ := there_cell HTH3.out 3 (by decide)
      obtain ⟨⟨z4, hz4⟩, hf4⟩ := there_cell HTH3.out 4 (by decide)
      go_wp2
      refine bodyPost_ret (results_cell1 rfl _ rfl HL9.out) rfl ?_
      rw [HP.out]
      exact ⟨rfl, HB9.out⟩
    | none =>
      have HL9 := Lib.hid (load_struct (P := Try.prog) (T := 76) w3 w.heap.size [.int .i64 4, .int .i64 k, .int .i64 (to), .int .i32 0, .string ⟨#[]⟩] HTH3.out (by kernel_rfl) Try.underlying76 rfl)
      have HB9 := Lib.hid (below_setCells2 HB3.out w.heap.size (Nat.le_refl _) [.int .i64 4, .int .i64 k, .int .i64 (to), .int .i32 0, .string ⟨#[]⟩] 0)
      obtain ⟨⟨z0, hz0⟩, hf0⟩ := there_cell HTH3.out 0 (by decide)
      obtain ⟨⟨z1, hz1⟩, hf1⟩ := there_cell HTH3.out 1 (by decide)
      obtain ⟨⟨z2, hz2⟩, hf2⟩ := there_cell HTH3.out 2 (by decide)
      obtain ⟨⟨z3, hz3⟩, hf3⟩ := there_cell HTH3.out 3 (by decide)
      obtain ⟨⟨z4, hz4⟩, hf4⟩ := there_cell HTH3.out 4 (by decide)
      go_wp2
      refine bodyPost_ret (results_cell1 rfl _ rfl HL9.out) rfl ?_
      rw [HP.out]
      exact ⟨rfl, HB9.out⟩
  · rw [if_neg h3] at HP
    have h3b : ((kd : Int) == 3) = false := by rw [beq_eq_false_iff_ne]; omega
    by_cases h2 : kd = 2
    · subst h2
      rw [if_pos rfl] at HP
      have HP := Lib.hid HP
      have hk2 := hk2 rfl
      obtain ⟨A3, hr3, hsl⟩ := HR.out.runesLH (j := k + 1) (k := to - 1) (by omega) (by omega)
      have hsl : ∀ W, (Instr.slice 22 (.slice A l.length c) (some (.int .i64 ((k : Int) + 1))) (some (.int .i64 ((to : Int) - 1))) none).run Try.prog W = .ok (.slice A3 (to - 1 - (k + 1)) (c - (k + 1))) W := by
        rw [show ((k : Int) + 1) = ((k + 1 : Nat) : Int) by omega, show ((to : Int) - 1) = ((to - 1 : Nat) : Int) by omega]; exact hsl
      have HBY := fun W (h : Below w.heap.size w W) => Lib.hid (Bytes_any S A3 _ _ _ W (hr3.below h) (by simp; omega))
      generalize bytesF ((l.drop (k + 1)).take (to - 1 - (k + 1))) = nm at HBY HP
      generalize to - 1 - (k + 1) = nn at hsl HBY
      generalize c - (k + 1) = cc at hsl HBY
      clear hr3 h38 h3
      go_enter Try.func99, Try.ntmps99
      go_wp2_with fail
      generalize w.alloc (.cells #[.int .i64 0, .int .i64 0, .int .i64 0, .int .i32 0, .string ⟨#[]⟩] 76) = W0 at HTH0 HB0 HSZ
      refine (HNX _ HB0.out).out.mono ?_
      rintro e w1 ⟨rfl, hb1⟩
      have hT2 := box_cell w1 #[.int .i64 (2 : Nat), .int .i64 k, .int .i64 to, .bool wh] 112 2 (u := .int .i64 to) rfl
      have HBA := Lib.hid (bt hb1 (ba w1 (.cells #[.int .i64 (2 : Nat), .int .i64 k, .int .i64 to, .bool wh] 112)))
      have HB2 := Lib.hid (HB0.out.trans (HBA.out.mono HB0.out.size))
      have HTH2 := Lib.hid (there_below HTH0.out HBA.out HSZ.out)
      have HLT := Lib.hid (Nat.lt_of_lt_of_le HSZ.out HBA.out.size)
      have HNB : Hid ((some w.heap.size : Option Nat) ≠ some w1.heap.size) := fun e => by injection e with e; have := HSZ.out; have := hb1.size; omega
      clear hb1 HBA HNX HTH0
      go_wp2
      generalize w1.alloc (.cells #[.int .i64 (2 : Nat), .int .i64 k, .int .i64 to, .bool wh] 112) = W2 at hT2 HB2 HTH2 HLT
      generalize w1.heap.size = bx at hT2 HNB
      refine wp_region_G (some w.heap.size) [(0, true), (1, true), (2, true), (3, true), (4, true), (5, true), (6, true), (7, true), (8, true), (9, true), (10, false), (11, false), (12, true), (13, false)] (by kernel_rfl) (by kernel_rfl) (fun _ _ _ _ _ h => h) ?_
      have hT3 : W2.drew.cell? ⟨bx, 2, none⟩ = some (.int .i64 to) := hT2
      have HB3 := Lib.hid HB2.out.drew
      have HTH3 : Hid (W2.drew.there w.heap.size 0 5) := by simpa [Hid] using HTH2.out
      have HLT3 : Hid (w.heap.size < W2.drew.heap.size) := HLT.out
      generalize W2.drew = wd at hT3 HB3 HTH3 HLT3
      clear hT2 HB2 HTH2 HLT
      have hq : ∀ W, LeG (some w.heap.size) wd W → W.cell? ⟨bx, 2, none⟩ = some (.int .i64 to) := fun W hW => LeG.cell hW hT3 HNB.out
      have hslw : ∀ W, (Instr.slice 22 (.slice A l.length c) (some (.int .i64 (IntKind.i64.wrap ((k : Int) + 1)))) (some (.int .i64 (IntKind.i64.wrap ((to : Int) - 1)))) none).run Try.prog W = .ok (.slice A3 nn cc) W := by
        rw [IntWalk.i64_in _ (by omega), IntWalk.i64_in _ (by omega)]; exact hsl
      repeat (refine wpE_still rfl (fun K hK => ?_); go_simp; first | (refine hK.out _ ?_; clear hK K) | (apply Exists.intro; refine ⟨fun W hW => ?_, hK.out _ ?_⟩; (first | rfl | (have z0 := hq W hW; go_simp; first | done | rfl) | (rw [hslw W]; rfl)); clear hK K))
      refine wpE_loud rfl (fun K hK => ?_) (LeG.refl _)
      go_simp
      refine (HBY _ HB3.out).out.mono ?_
      rintro e w3 ⟨v3, rfl, ⟨n3, ho3⟩, hb3⟩
      obtain ⟨A6, c6, rfl, hr6⟩ := own_form ho3
      have hcv := run_bytes_string hr6 88 9 5 Try.underlying88 Try.underlying5 Try.underlying9 (P := Try.prog)
      go_simp
      refine hK.out _ _ (LeG.of_below hb3) ?_
      clear hK K
      have HB4 := Lib.hid (HB3.out.trans (hb3.mono HB3.out.size))
      have HTH4 := Lib.hid (there_below HTH3.out hb3 HLT3.out)
      have HL9 := Lib.hid (load_struct (P := Try.prog) (T := 76) w3 w.heap.size [.int .i64 3, .int .i64 k, .int .i64 to, .int .i32 0, .string ⟨nm.toArray⟩] HTH4.out (by kernel_rfl) Try.underlying76 rfl)
      have HB9 := Lib.hid (below_setCells2 HB4.out w.heap.size (Nat.le_refl _) [.int .i64 3, .int .i64 k, .int .i64 to, .int .i32 0, .string ⟨nm.toArray⟩] 0)
      refine wpE_loud rfl (fun K hK => ?_) (LeG.refl _)
      go_simp
      refine hK.out _ _ (LeG.refl _ _) ?_
      clear hK K
      repeat (refine wpE_still rfl (fun K hK => ?_); go_simp; first | (refine hK.out _ ?_; clear hK K) | (apply Exists.intro; refine ⟨fun W hW => rfl, hK.out _ ?_⟩; clear hK K))
      refine wpE_op rfl rfl (fun K hK => ?_)
      refine wpList_store_mid rfl 76 (.tmp 4) (.tmp 52) rfl w.heap.size 0 #[.int .i64 3, .int .i64 k, .int .i64 to, .int .i32 0, .string ⟨nm.toArray⟩] rfl rfl HTH4.out (by kernel_rfl) (by simp [Value.oneCell']) ?_
      refine hK.out _ _ (leG_setCells w3 w.heap.size _ 0) ?_
      clear hK K
      refine wpE_nil ?_
      go_wp2
      refine bodyPost_ret (results_cell1 rfl _ rfl HL9.out) rfl ?_
      rw [HP.out]
      exact ⟨rfl, HB9.out⟩
    · rw [if_neg h2] at HP
      have HP := Lib.hid HP
      have h2b : ((kd : Int) == 2) = false := by rw [beq_eq_false_iff_ne]; omega
      clear h2 h3 h38
      go_enter Try.func99, Try.ntmps99
      go_wp2_with fail
      generalize w.alloc (.cells #[.int .i64 0, .int .i64 0, .int .i64 0, .int .i32 0, .string ⟨#[]⟩] 76) = W0 at HTH0 HB0 HSZ
      refine (HNX _ HB0.out).out.mono ?_
      rintro e w1 ⟨rfl, hb1⟩
      have HBA := Lib.hid (bt hb1 (ba w1 (.cells #[.int .i64 kd, .int .i64 k, .int .i64 to, .bool wh] 112)))
      have HB2 := Lib.hid (HB0.out.trans (HBA.out.mono HB0.out.size))
      have HTH2 := Lib.hid (there_below HTH0.out HBA.out HSZ.out)
      clear hb1 HBA HNX HTH0
      have HL9 := Lib.hid (load_struct (P := Try.prog) (T := 76) (w1.alloc (.cells #[.int .i64 kd, .int .i64 k, .int .i64 to, .bool wh] 112)) w.heap.size [.int .i64 4, .int .i64 k, .int .i64 ((k : Int) + 1), .int .i32 0, .string ⟨#[]⟩] HTH2.out (by kernel_rfl) Try.underlying76 rfl)
      have HB9 := Lib.hid (below_setCells2 HB2.out w.heap.size (Nat.le_refl _) [.int .i64 4, .int .i64 k, .int .i64 ((k : Int) + 1), .int .i32 0, .string ⟨#[]⟩] 0)
      obtain ⟨⟨z0, hz0⟩, hf0⟩ := there_cell HTH2.out 0 (by decide)
      obtain ⟨⟨z1, hz1⟩, hf1⟩ := there_cell HTH2.out 1 (by decide)
      obtain ⟨⟨z2, hz2⟩, hf2⟩ := there_cell HTH2.out 2 (by decide)
      obtain ⟨⟨z3, hz3⟩, hf3⟩ := there_cell HTH2.out 3 (by decide)
      obtain ⟨⟨z4, hz4⟩, hf4⟩ := there_cell HTH2.out 4 (by decide)
      go_wp2
      refine bodyPost_ret (results_cell1 rfl _ rfl HL9.out) rfl ?_
      rw [HP.out]
      exact ⟨rfl, HB9.out⟩

end Go.Proofs.Ytbbplpmaknaadaa
