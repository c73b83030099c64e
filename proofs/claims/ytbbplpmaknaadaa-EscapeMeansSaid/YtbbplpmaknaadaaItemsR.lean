/-
  Layer 1 (scan): the document's Items. Rows of at most 300000000 bytes.
-/
import Derived.Test.YtbbplpmaknaadaaItems
import Derived.Test.YtbbplpmaknaadaaScanQ
namespace Go.Proofs.Ytbbplpmaknaadaa
open Go.RowKit Go.Lib

set_option maxHeartbeats 1000000 in
set_option maxRecDepth 100000 in
theorem RItems_any (S : Nat → Prop) (A : Option Addr) (n c : Nat) (l : List UInt8) (w : World) (hr : Rd w S 1 A n c (bc l)) (hlen : l.length ≤ 300000000) :
    Calls Try.prog 81 #[.slice A n c] w fun e w' => ∃ v, e = .returned v ∧ (∃ n', w'.ownsRow w.heap.size 93 3 v n' (itemCells (itemsF l))) ∧ Below w.heap.size w w' := by
  obtain rfl := bc_len hr
  have hle := hr.le
  have hmx : c ≤ 9223372036854775807 := hr.max
  have HR := Lib.hid hr
  clear hr
  go_enter Try.func81, Try.ntmps81
  go_wp2
  go_loopw [3, 4] (fun v i wr => ∃ (pos : Nat) (o : List (Int × Nat × Nat)), i = .int .i64 pos ∧ Hid (Below w.heap.size w wr) ∧ Hid (itemsF l = o ++ itemsGo (l.drop pos).length pos (l.drop pos)) ∧ o.length ≤ pos ∧
      Hid (∃ n', wr.ownsRow w.heap.size 93 3 v n' (itemCells o)) ∧ pos ≤ l.length)
    (fun _ i _ => l.length - (intOf i).toNat)
  case atStart => exact ⟨0, [], rfl, Below.refl _ _, by simp [Hid, itemsF], Nat.le_refl _, ⟨0, World.ownsRow_nil _ _ _ _⟩, Nat.zero_le _⟩
  case round =>
    obtain ⟨pos, o, rfl, HB, HS2, hol, HO, hpos⟩ := hrel
    obtain ⟨no, HO⟩ := HO.out
    have hno : no = o.length := by have := HO.1; rw [itemCells_len] at this; omega
    obtain ⟨Ao, co, rfl, hro⟩ := own_form HO
    have hco : co ≤ 9223372036854775807 := hro.max
    have HO := Lib.hid HO
    have hnob : no ≤ 300000000 := by omega
    have HNO := Lib.hid hno
    clear hro hno
    by_cases hlt : pos < l.length
    · have hdl : (l.drop pos).length = l.length - pos := List.length_drop
      obtain ⟨A', hcut, hsl⟩ := (HR.out.below HB.out).cutL Try.underlying88 (fun _ => by simp [go_sem]) (P := Try.prog) (k := pos) (by omega)
      rw [Nat.mul_one, ← List.map_drop] at hcut
      have hne : l.drop pos ≠ [] := by
        intro h0
        rw [h0] at hdl
        simp at hdl
        omega
      have HF := Lib.hid (First_any S A' (l.length - pos) (c - pos) (l.drop pos) wr hcut (by omega))
      have hfl := firstF_le _ hne
      have hfp := firstF_pos (l.drop pos)
      have hfr := firstF_range (l.drop pos)
      have HST : Hid (itemsF l = (o ++ [((firstF (l.drop pos)).1, pos, (firstF (l.drop pos)).2)]) ++ itemsGo (l.drop (pos + (firstF (l.drop pos)).2)).length (pos + (firstF (l.drop pos)).2) (l.drop (pos + (firstF (l.drop pos)).2))) := by
        rw [Hid, HS2.out, itemsGo_step pos _ hne, List.drop_drop]
        simp
      rw [if_neg hne, if_neg hne] at HF
      generalize firstF (l.drop pos) = p at HF hfl hfp HST hfr
      clear hcut
      go_wp2_with fail
      refine HF.out.mono ?_
      rintro e w2 ⟨rfl, hb2⟩
      have HB2 := Lib.hid (HB.out.trans (hb2.mono HB.out.size))
      have HO2 := Lib.hid (own_below HO.out hb2)
      clear hb2
      go_wp2_with (first
        | (at_builtin
           refine append_ritems _ rfl (.tmp 18) (.tmp 23) rfl w.heap.size _ _ (itemCells o) rfl (HO2.out.alloc _) _ _ 1 1 (itemCells [(p.1, pos, p.2)]) rfl (Rd.lit w2 _ #[.int .i32 p.1, .int .i64 pos, .int .i64 p.2] 3 1 rfl (by decide)) (itemCells_one _) (by omega) (by have := HB2.out.size; simp; omega) ?_
           intro A4 c4 w4 hown4 hg4 _ _
           have hb4 := below_own (HB2.out.alloc HB2.out.size (.cells #[.int .i32 p.1, .int .i64 pos, .int .i64 p.2] 93)) (by have := HB2.out.size; simp; omega) (HO2.out.alloc _) hg4
           have HB4 := Lib.hid hb4
           have HO4 := Lib.hid hown4
           clear hown4 hg4 hb4))
      go_roundw
      case rel =>
        refine ⟨pos + p.2, _, by go_num, HB4.out, HST.out, ?_, ⟨_, by rw [itemCells_append]; exact HO4.out⟩, by omega⟩
        simp; omega
      case measure => simp [intOf]; omega
    · have HE : Hid (itemsF l = o) := by
        have : l.drop pos = [] := List.drop_eq_nil_of_le (by omega)
        rw [Hid, HS2.out, this, itemsGo_nil, List.append_nil]
      go_wp2
      go_ret
      exact ⟨_, rfl, ⟨_, by rw [HE.out]; exact HO.out⟩, HB.out⟩

end Go.Proofs.Ytbbplpmaknaadaa
