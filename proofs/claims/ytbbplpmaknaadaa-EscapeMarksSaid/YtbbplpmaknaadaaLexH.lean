/-
  Layer 16 (dtd): a text without great letters; whether a name is xml: the program's and the document's.
-/
import Derived.Test.YtbbplpmaknaadaaLexG
namespace Go.Proofs.Ytbbplpmaknaadaa
open Go.RowKit Go.Lib

/-! ### a cell of a row is put anew -/
theorem Rd.setB {w : World} {S : Nat → Prop} {n c : Nat} {xs : List Value} {b o : Nat} (h : Rd w S 1 (some ⟨b, o, none⟩) n c xs) {k : Nat} (hk : k < n) (v : Value) :
    Rd (w.setCell ⟨b, o + k, none⟩ v) S 1 (some ⟨b, o, none⟩) n c (xs.set k v) := by
  have hlen := h.len
  refine ⟨by simpa using h.len, h.le, h.max, (fun e => by cases e), fun h0 => ?_⟩
  obtain ⟨b', o', e, hS, hc⟩ := h.at_ h0
  injection e with e
  injection e with e1 e2
  subst e1 e2
  refine ⟨b, o, rfl, hS, fun j u hu => ?_⟩
  have hkl : k < xs.length := by omega
  by_cases hj : k = j
  · subst hj
    rw [List.getElem?_set_self hkl] at hu
    injection hu with hu
    subst hu
    exact World.cell?_setCell_same _ _ _ (hc k _ (List.getElem?_eq_getElem hkl))
  · rw [List.getElem?_set_ne hj] at hu
    rw [World.cell?_setCell_other]
    · exact hc j u hu
    · intro e
      injection e with _ e
      omega

def lowTo (l : List UInt8) (k : Nat) : List UInt8 := lowerF (l.take k) ++ l.drop k
theorem lowTo_get (l : List UInt8) (k : Nat) (h : k < l.length) : (lowTo l k)[k]? = some l[k] := by
  have hl : (lowerF (l.take k)).length = k := by simp [lowerF]; omega
  rw [lowTo, List.getElem?_append_right (by omega), List.drop_eq_getElem_cons h, hl, Nat.sub_self]
  rfl
theorem lowTo_step (l : List UInt8) (k : Nat) (h : k < l.length) : lowTo l (k + 1) = (lowTo l k).set k (lowB l[k]) := by
  have hl : (lowerF (l.take k)).length = k := by simp [lowerF]; omega
  rw [lowTo, lowTo, List.drop_eq_getElem_cons h, List.set_append_right _ _ (by omega), List.take_succ_eq_append_getElem h, hl, Nat.sub_self]
  simp only [lowerF, List.map_append, List.map_cons, List.map_nil, List.set_cons_zero, List.append_assoc, List.cons_append, List.nil_append]
theorem lowTo_same (l : List UInt8) (k : Nat) (h : k < l.length) (hs : lowB l[k] = l[k]) : lowTo l (k + 1) = lowTo l k := by
  rw [lowTo_step l k h, hs]
  obtain ⟨h2, e⟩ := List.getElem?_eq_some_iff.1 (lowTo_get l k h)
  rw [← e, List.set_getElem_self]

theorem bc_set (l : List UInt8) (k : Nat) (b : UInt8) : (bc l).set k (.int .u8 b.toNat) = bc (l.set k b) := by simp [bc, List.map_set]

theorem run_string_bytes2 {P : Program} (w : World) (s : ByteArray) (src dst e : TypeId) (hs : P.underlying src = some .string) (hd : P.underlying dst = some (.slice e)) (he : P.underlying e = some (.int .u8))
    (hlen : s.size ≤ 1000000000) :
    ∃ b o c w', (convert src dst (.string s)).run P w = .ok (.slice (some ⟨b, o, none⟩) s.size c) w' ∧ Rd w' (fun b => w.heap.size ≤ b) 1 (some ⟨b, o, none⟩) s.size c (bc s.data.toList) ∧ w.heap.size ≤ b ∧ (∀ j, j < s.size → w'.frozen? ⟨b, o + j, none⟩ = false) ∧ Below w.heap.size w w' ∧ c ≤ 9223372036854775807 := by
  have hge := grownCap_ge w s.size 0 e
  have hmx := grownCap_le_maxLen w s.size 0 e (by unfold maxLen; omega)
  refine ⟨_, _, _, _, run_bytes_of_string w src dst e s hs hd he, ?_, Nat.le_refl _, ?_, (Below.refl _ w).drew.alloc (Nat.le_refl _) _, hmx⟩
  · refine ⟨by simp [bc], hge, hmx, (fun h => by cases h), fun _ => ⟨_, _, rfl, Nat.le_refl _, fun j u hu => ?_⟩⟩
    obtain ⟨hj, rfl⟩ := bc_get hu
    have hj2 : j < s.data.size := by simpa using hj
    rw [Nat.zero_add]
    refine (World.cell?_alloc_mark w.drew (bytesRow s (grownCap w s.size 0 e)) e _ j).trans ?_
    rw [bytesRow, Array.getElem?_append_left (by simpa using hj2)]
    simp only [Array.getElem?_map, Array.getElem?_eq_getElem hj2, Option.map_some, Array.getElem_toList]
  · intro j hj
    have hz : s.size ≤ (bytesRow s (grownCap w s.size 0 e)).size := by
      have e : s.size = s.data.size := rfl
      rw [bytesRow, Array.size_append, e]
      simp [-ByteArray.size_data]
    have hh : (w.drew.alloc (.cells (bytesRow s (grownCap w s.size 0 e)) e ((bytesRow s (grownCap w s.size 0 e)).size, (bytesRow s (grownCap w s.size 0 e)).size + 1))).heap[w.heap.size]? = some (.cells (bytesRow s (grownCap w s.size 0 e)) e ((bytesRow s (grownCap w s.size 0 e)).size, (bytesRow s (grownCap w s.size 0 e)).size + 1)) := by
      show (w.heap.push _)[w.heap.size]? = _
      simp
    unfold World.frozen?
    rw [hh]
    simp
    omega

set_option maxHeartbeats 2000000 in
set_option maxRecDepth 100000 in
theorem Lower_any (s : ByteArray) (w : World) (hlen : s.size ≤ 300000000) :
    Calls Try.prog 92 #[.string s] w fun e w' => e = .returned (.string ⟨(lowerF s.data.toList).toArray⟩) ∧ Below w.heap.size w w' := by
  obtain ⟨b, o, c0, w1, hcv, hr, hbb0, hfz, hb, hc0⟩ := run_string_bytes2 (P := Try.prog) w s 9 88 5 Try.underlying9 Try.underlying88 Try.underlying5 (by omega)
  have hll : s.data.toList.length = s.size := by simp
  generalize s.data.toList = l at hr hll ⊢
  have hle := hr.le
  have HR : Hid (Rd w1 (fun b => w.heap.size ≤ b) 1 (some ⟨b, o, none⟩) s.size c0 (bc (lowTo l 0))) := hr
  have HB1 := Lib.hid hb
  have HF1 := Lib.hid hfz
  clear hr hb hfz
  go_enter Try.func92, Try.ntmps92
  go_wp2
  go_loopw [10] (fun i wr => ∃ (k : Nat), k ≤ s.size ∧ i = .int .i64 k ∧ Hid (Rd wr (fun b => w.heap.size ≤ b) 1 (some ⟨b, o, none⟩) s.size c0 (bc (lowTo l k))) ∧ Hid (∀ j, j < s.size → wr.frozen? ⟨b, o + j, none⟩ = false) ∧ Hid (Below w.heap.size w wr))
    (fun i _ => s.size - (intOf i).toNat)
  case atStart => exact ⟨0, Nat.zero_le _, rfl, HR.out, HF1.out, HB1.out⟩
  case round =>
    obtain ⟨k, hk, rfl, HK, HF, HB⟩ := hrel
    by_cases hlt : k < s.size
    · have hlt2 : k < l.length := by omega
      obtain ⟨b', o', hA, hS, hc⟩ := HK.out.at_ (by omega)
      injection hA with hA
      injection hA with e1 e2
      subst e1 e2
      have hc1 : wr.cell? ⟨b, o + k, none⟩ = some (.int .u8 (l[k]).toNat) := hc k _ (by rw [bc, List.getElem?_map, lowTo_get l k hlt2]; rfl)
      have hfk := HF.out k hlt
      have HST := Lib.hid (lowTo_step l k hlt2)
      have HSM := Lib.hid (lowTo_same l k hlt2)
      have hbb := (l[k]).toNat_lt
      clear hc
      by_cases hq : 65 ≤ (l[k]).toNat ∧ (l[k]).toNat ≤ 90
      · have HL : Hid (lowB l[k] = UInt8.ofNat ((l[k]).toNat + 32)) := by rw [Hid, lowB, if_pos hq]
        generalize l[k] = x at hc1 HST HSM hbb hq HL
        have hx1 : ((x.toNat : Nat) : Int) ≥ 65 := by omega
        have hx2 : ((x.toNat : Nat) : Int) ≤ 90 := by omega
        have HX := Lib.hid (show ((x.toNat : Nat) : Int) + 97 - 65 = (((UInt8.ofNat (x.toNat + 32)).toNat : Nat) : Int) by rw [UInt8.toNat_ofNat']; omega)
        clear HSM
        go_wp2
        rw [HX.out]
        go_roundw
        case rel =>
          refine ⟨k + 1, by omega, by go_num, ?_, fun j hj => ?_, HB.out.setCell hbb0 _⟩
          · rw [HST.out, HL.out, ← bc_set]
            exact HK.out.setB hlt _
          · rw [World.frozen?_setCell]; exact HF.out j hj
        case measure => simp [intOf]; omega
      · have HL : Hid (lowB l[k] = l[k]) := by rw [Hid, lowB, if_neg hq]
        have HE := Lib.hid (HSM.out HL.out)
        generalize l[k] = x at hc1 HST hbb hq
        clear HSM HL HST
        by_cases hx1 : ((x.toNat : Nat) : Int) ≥ 65
        · have hx2 : ¬ ((x.toNat : Nat) : Int) ≤ 90 := by omega
          go_wp2
          go_roundw
          case rel => exact ⟨k + 1, by omega, by go_num, by rw [HE.out]; exact HK.out, HF.out, HB.out⟩
          case measure => simp [intOf]; omega
        · go_wp2
          go_roundw
          case rel => exact ⟨k + 1, by omega, by go_num, by rw [HE.out]; exact HK.out, HF.out, HB.out⟩
          case measure => simp [intOf]; omega
    · have e : lowTo l k = lowerF l := by rw [lowTo, List.take_of_length_le (by omega), List.drop_eq_nil_of_le (by omega), List.append_nil]
      rw [e] at HK
      have hcv2 := run_bytes_string HK.out 88 9 5 Try.underlying88 Try.underlying5 Try.underlying9 (P := Try.prog)
      go_wp2
      go_ret
      exact ⟨rfl, HB.out⟩

theorem byte_all (p : UInt8 → Prop) [DecidablePred p] (h : ∀ n : Fin 256, p (UInt8.ofNat n.val)) (a : UInt8) : p a := by
  have := h ⟨a.toNat, a.toNat_lt⟩
  rwa [show UInt8.ofNat a.toNat = a by simp] at this
theorem xml_three (a b c : UInt8) : xmlF [a, b, c] = (((decide (a = 120) || decide (a = 88)) && (decide (b = 109) || decide (b = 77))) && (decide (c = 108) || decide (c = 76))) := by
  have h1 : ∀ a : UInt8, decide (lowB a = 120) = (decide (a = 120) || decide (a = 88)) := fun a => byte_all (fun a => decide (lowB a = 120) = (decide (a = 120) || decide (a = 88))) (by decide +kernel) a
  have h2 : ∀ a : UInt8, decide (lowB a = 109) = (decide (a = 109) || decide (a = 77)) := fun a => byte_all (fun a => decide (lowB a = 109) = (decide (a = 109) || decide (a = 77))) (by decide +kernel) a
  have h3 : ∀ a : UInt8, decide (lowB a = 108) = (decide (a = 108) || decide (a = 76)) := fun a => byte_all (fun a => decide (lowB a = 108) = (decide (a = 108) || decide (a = 76))) (by decide +kernel) a
  rw [← h1, ← h2, ← h3, Bool.eq_iff_iff]
  simp [xmlF, lowerF, and_assoc]

set_option maxHeartbeats 2000000 in
set_option maxRecDepth 100000 in
theorem RXml_any (s : ByteArray) (w : World) : Calls Try.prog 96 #[.string s] w fun e w' => e = .returned (.bool (xmlF s.data.toList)) ∧ w = w' := by
  have hsz : s.data.toList.length = s.size := by simp
  by_cases h3 : s.size = 3
  · have h3i : ((s.size : Int) == 3) = true := by rw [h3]; rfl
    have hd0 : 0 < s.data.size := by show 0 < s.size; omega
    have hd1 : 1 < s.data.size := by show 1 < s.size; omega
    have hd2 : 2 < s.data.size := by show 2 < s.size; omega
    have hl : s.data.toList = [s.data[0], s.data[1], s.data[2]] := by
      apply List.ext_getElem
      · simp; omega
      · intro i h1 h2
        rw [Array.getElem_toList]
        have hi : i = 0 ∨ i = 1 ∨ i = 2 := by simp at h2; omega
        rcases hi with rfl | rfl | rfl <;> rfl
    have HX := Lib.hid ((congrArg xmlF hl).trans (xml_three _ _ _))
    generalize xmlF s.data.toList = q at HX ⊢
    have hk : ∀ (x : UInt8) (n : Nat), n < 256 → (((x.toNat : Nat) : Int) == (n : Int)) = decide (x = UInt8.ofNat n) := fun x n hn => by
      rw [Bool.eq_iff_iff, beq_iff_eq, decide_eq_true_iff, ← UInt8.toNat_inj, UInt8.toNat_ofNat']
      omega
    have e0 : (((s[0]'hd0).toNat : Int) == 120) = decide (s.data[0] = 120) := hk _ 120 (by omega)
    have e1 : (((s[0]'hd0).toNat : Int) == 88) = decide (s.data[0] = 88) := hk _ 88 (by omega)
    have e2 : (((s[1]'hd1).toNat : Int) == 109) = decide (s.data[1] = 109) := hk _ 109 (by omega)
    have e3 : (((s[1]'hd1).toNat : Int) == 77) = decide (s.data[1] = 77) := hk _ 77 (by omega)
    have e4 : (((s[2]'hd2).toNat : Int) == 108) = decide (s.data[2] = 108) := hk _ 108 (by omega)
    have e5 : (((s[2]'hd2).toNat : Int) == 76) = decide (s.data[2] = 76) := hk _ 76 (by omega)
    generalize decide (s.data[0] = 120) = p0 at HX e0
    generalize decide (s.data[0] = 88) = p1 at HX e1
    generalize decide (s.data[1] = 109) = p2 at HX e2
    generalize decide (s.data[1] = 77) = p3 at HX e3
    generalize decide (s.data[2] = 108) = p4 at HX e4
    generalize decide (s.data[2] = 76) = p5 at HX e5
    clear hk hl
    go_enter Try.func96, Try.ntmps96
    cases p0 <;> cases p2 <;> cases p4 <;> cases p1 <;> cases p3 <;> cases p5
    all_goals (go_wp2; go_ret; exact ⟨ret_bool HX.out.symm, rfl⟩)
  · have h3i : ((s.size : Int) == 3) = false := by rw [beq_eq_false_iff_ne]; omega
    have HX : Hid (xmlF s.data.toList = false) := by
      rw [Hid, xmlF, beq_eq_false_iff_ne]
      intro h
      have := congrArg List.length h
      simp [lowerF] at this
      omega
    go_enter Try.func96, Try.ntmps96
    go_wp2
    go_ret
    exact ⟨ret_bool HX.out.symm, rfl⟩

end Go.Proofs.Ytbbplpmaknaadaa
